/- Contracts of the program's functions, walked. No condition. -/
import Derived.Test.YtacfjmjcgolhfaaA9
import Derived.Test.YtacfjmjcgolhfaaEn
namespace Go.Proofs.Ytacfjmjcgolhfaa
open Go Go.Proofs Go.PW
open Go.PW.Enc (enc val)

theorem Take_is (bs m : Nat) (o : Ow) (most : Int) (l : List Spare) (ho : o.ok (List.map plc l)) (hl : l.length ≤ 2000) (hnd : (l.map plc).Nodup) (h : Key) (n : UInt32) {l2 : List Spare} {k : Key} {f : Bool} (hl2 : takeL h n l = l2) (hk : (mget (⟨h, n⟩ : SpP) (List.map skv l)).getD zarr = k) (hf : (mget (⟨h, n⟩ : SpP) (List.map skv l)).isSome = f) :
    Ct Try.prog 17 [.pointer (some ⟨bs, 0, none⟩), val h, .int .u32 n.toNat] [[(bs, .cells (cat [p1 (.int .i64 most), p1 (.map (some m)), p1 (.slice o.adr (List.map plc l).length o.cap)]) 76)], [(m, .pred (isMap (List.map skv l)))], o.seg (List.map plc l) 72] [] (fun v w r => ∃ o' : Ow, o'.ok (List.map plc l2) ∧ v = .tuple #[val k, .bool f] ∧ w = [[(bs, .cells (cat [p1 (.int .i64 most), p1 (.map (some m)), p1 (.slice o'.adr (List.map plc l2).length o'.cap)]) 76)], [(m, .pred (isMap (List.map skv l2)))], o'.seg (List.map plc l2) 72] ∧ r = []) := by
  subst hl2; subst hk; subst hf; exact Take_ct bs m o most l ho hl hnd h n
theorem tmod_bd (a : Int) {n : Nat} (h : 0 < n) : -(n : Int) < a.tmod n ∧ a.tmod n < n := by
  have h1 := Int.natAbs_tmod a n
  have h2 : (a.tmod n).natAbs < n := by rw [h1]; exact Nat.mod_lt _ (by simpa using h)
  omega
theorem put_zero {most : Int} {l xs : List Spare} (h : putE most l xs = 0) : ((l ++ xs).map plc).Nodup ∧ (l.length : Int) + xs.length ≤ most ∧ putL most l xs = l ++ xs := by
  refine ⟨?_, ?_, if_pos h⟩
  · unfold putE at h; split at h
    · cases h
    · next h2 => simpa using h2
  · unfold putE at h; split at h
    · cases h
    · split at h
      · cases h
      · omega
section
variable {l rs : List Spare} {kk : Nat}
theorem at_kk (hk : kk < rs.length) : (List.map skv (l ++ rs))[l.length + kk]'(by simp; omega) = skv rs[kk] := by
  rw [List.getElem_map, List.getElem_append_right (by omega)]; simp
theorem taken_get (hk : kk < rs.length) (hnd : ((l ++ rs).map plc).Nodup) : mget (⟨rs[kk].header, rs[kk].n⟩ : SpP) (List.map skv (l ++ rs)) = some rs[kk].message := by
  have h := mget_at (kv := List.map skv (l ++ rs)) (by rw [skv_fst]; exact hnd) (i := l.length + kk) (by simp; omega)
  rw [at_kk hk] at h; exact h
theorem taken_k (hk : kk < rs.length) (hnd : ((l ++ rs).map plc).Nodup) : (mget (⟨rs[kk].header, rs[kk].n⟩ : SpP) (List.map skv (l ++ rs))).getD zarr = rs[kk].message := by rw [taken_get hk hnd]; rfl
theorem taken_f (hk : kk < rs.length) (hnd : ((l ++ rs).map plc).Nodup) : (mget (⟨rs[kk].header, rs[kk].n⟩ : SpP) (List.map skv (l ++ rs))).isSome = true := by rw [taken_get hk hnd]; rfl
theorem takeL_nin {h : Key} {n : UInt32} {l : List Spare} (hn : (⟨h, n⟩ : SpP) ∉ l.map plc) : takeL h n l = l := by
  unfold takeL
  rw [List.filter_eq_self]
  intro s hs
  simp only [Bool.not_eq_true', decide_eq_false_iff_not]
  exact fun e => hn (e ▸ List.mem_map.2 ⟨s, hs, rfl⟩)
theorem rest_nin (hk : kk < rs.length) (hnd : ((l ++ rs).map plc).Nodup) : (⟨rs[kk].header, rs[kk].n⟩ : SpP) ∉ (l ++ (rs.take kk ++ rs.drop (kk + 1))).map plc := by
  have e : rs = rs.take kk ++ (rs[kk] :: rs.drop (kk + 1)) := by rw [List.getElem_cons_drop, List.take_append_drop]
  have h2 : (((l ++ rs.take kk) ++ (rs[kk] :: rs.drop (kk + 1))).map plc).Nodup := by rw [List.append_assoc, ← e]; exact hnd
  rw [List.map_append, List.map_cons] at h2
  rw [List.nodup_append] at h2
  obtain ⟨_, h4, h5⟩ := h2
  rw [List.nodup_cons] at h4
  rw [← List.append_assoc, List.map_append]
  exact fun hm => (List.mem_append.1 hm).elim (fun h6 => h5 _ h6 _ (List.mem_cons_self ..) rfl) h4.1
theorem taken_l (hk : kk < rs.length) (hnd : ((l ++ rs).map plc).Nodup) : takeL rs[kk].header rs[kk].n (l ++ rs) = l ++ (rs.take kk ++ rs.drop (kk + 1)) := by
  have e : rs = rs.take kk ++ (rs[kk] :: rs.drop (kk + 1)) := by rw [List.getElem_cons_drop, List.take_append_drop]
  have h1 := takeL_nin (rest_nin hk hnd)
  have key : ∀ (x : Spare) (A B : List Spare), takeL x.header x.n (l ++ (A ++ (x :: B))) = takeL x.header x.n (l ++ (A ++ B)) := fun x A B => by
    unfold takeL
    rw [List.filter_append, List.filter_append, List.filter_append, List.filter_append, List.filter_cons, if_neg (by simp [plc])]
  have h2 := key rs[kk] (rs.take kk) (rs.drop (kk + 1))
  rw [← e] at h2
  exact h2.trans h1
theorem again_l (hk : kk < rs.length) (hnd : ((l ++ rs).map plc).Nodup) : takeL rs[kk].header rs[kk].n (l ++ (rs.take kk ++ rs.drop (kk + 1))) = l ++ (rs.take kk ++ rs.drop (kk + 1)) := takeL_nin (rest_nin hk hnd)
theorem again_get (hk : kk < rs.length) (hnd : ((l ++ rs).map plc).Nodup) : mget (⟨rs[kk].header, rs[kk].n⟩ : SpP) (List.map skv (l ++ (rs.take kk ++ rs.drop (kk + 1)))) = none := by rw [mget_none, skv_fst]; exact rest_nin hk hnd
theorem again_k (hk : kk < rs.length) (hnd : ((l ++ rs).map plc).Nodup) : (mget (⟨rs[kk].header, rs[kk].n⟩ : SpP) (List.map skv (l ++ (rs.take kk ++ rs.drop (kk + 1))))).getD zarr = zarr := by rw [again_get hk hnd]; rfl
theorem again_f (hk : kk < rs.length) (hnd : ((l ++ rs).map plc).Nodup) : (mget (⟨rs[kk].header, rs[kk].n⟩ : SpP) (List.map skv (l ++ (rs.take kk ++ rs.drop (kk + 1))))).isSome = false := by rw [again_get hk hnd]; rfl
theorem taken_len (hk : kk < rs.length) (hl : (l ++ rs).length ≤ 2000) : (l ++ (rs.take kk ++ rs.drop (kk + 1))).length ≤ 2000 := by simp at hl ⊢; omega
theorem taken_nd (hk : kk < rs.length) (hnd : ((l ++ rs).map plc).Nodup) : ((l ++ (rs.take kk ++ rs.drop (kk + 1))).map plc).Nodup := by
  have h : (l ++ (rs.take kk ++ rs.drop (kk + 1))).Sublist (l ++ rs) := by
    apply List.Sublist.append_left
    conv => rhs; rw [← List.take_append_drop kk rs]
    exact List.Sublist.append_left (List.drop_sublist_drop_left _ (Nat.le_succ kk)) _
  exact (h.map plc).nodup hnd
end

set_option maxRecDepth 20000 in
set_option maxHeartbeats 4000000 in
theorem Taken_ct (most : Int) (s t u : Vs) (l more : List Spare) (ord : List Int) (hs : s.ok l) (ht : t.ok more) (hu : u.ok ord) (hl : l.length ≤ 2199023255552) (hmore : more.length ≤ 2199023255552) (hord : ord.length ≤ 140737488351232) : Ct Try.prog 5 [.int .i64 most, s.v l.length, t.v more.length, u.v ord.length] [] [s.seg l, t.seg more, u.seg ord] (fun v w r => v = .bool true ∧ w = [] ∧ r = []) := by
  refine ct_enter Try.func5 rfl Try.ntmps5 (by kernel_rfl) rfl fun w0 => ?_
  refine c_seq ?_
  refine c_reg ?_
  refine asg (.bool _) rfl ?_
  refine jt ?_
  refine c_seq ?_
  refine c_seq ?_
  refine c_reg ?_
  refine cal lives_ct [] [] [] rfl rfl rfl (by kernel_rfl) impl_nil rfl ?_; rintro _ _ _ ⟨rfl, rfl, rfl⟩; refine ⟨trivial, ?_⟩
  refine not_ rfl ?_
  refine jt ?_
  refine c_false rfl ?_
  refine c_skip ?_
  refine e_then ?_
  refine c_seq ?_
  refine c_reg ?_
  refine mv (.int _ _) rfl ?_
  refine mv (.slice _ _ _) rfl ?_
  refine cal (From_ct most s l hs (by omega)) [] [] [] rfl rfl rfl (by kernel_rfl) (impl_cons (impl_at 0 rfl) impl_nil) rfl ?_; rintro _ _ _ (⟨hF23, bs23, m23, o23, ho23, rfl, rfl, rfl⟩ | ⟨hF23, rfl, rfl, rfl⟩)
  · have hf23 := from_facts hF23; refine ⟨trivial, ?_⟩
    refine mv (.tuple _) rfl ?_
    refine xtr (.pointer _) rfl rfl ?_
    refine xtr (.int _ _) rfl rfl ?_
    refine asg (.pointer _) rfl ?_
    refine asg (.int _ _) rfl ?_
    refine jt ?_
    refine c_seq ?_
    refine c_seq ?_
    refine c_reg ?_
    refine mv (.int _ _) rfl ?_
    refine cmp false rfl rfl rfl ?_
    refine mv (.bool _) rfl ?_
    refine g_on rfl rfl rfl ?_
    refine mv (.pointer _) rfl ?_
    refine g_on rfl rfl rfl ?_
    refine mv (.slice _ _ _) rfl ?_
    refine g_on rfl rfl rfl ?_
    refine cal (Put_is bs23 m23 o23 most l ho23 (by omega) (by omega) hf23.2.1 t more ht (by omega) (z := putE most l more) (l2 := (putL most l more)) rfl rfl) [0, 1, 2] [] [] rfl rfl rfl (by kernel_rfl) (impl_cons (impl_at 1 rfl) impl_nil) rfl ?_; rintro _ _ _ ⟨o31, ho31, rfl, rfl, rfl⟩; refine ⟨trivial, ?_⟩
    refine g_on rfl rfl rfl ?_
    refine cmp _ rfl rfl rfl ?_
    refine pkf (.bool _) rfl rfl ?_
    refine jt ?_
    refine c_cond rfl (fun h1 => ?_) (fun h1 => ?_)
    · replace h1 := ndt h1
      refine c_seq ?_
      refine c_reg ?_
      refine asg (.bool _) rfl ?_
      refine jt ?_
      refine c_ret ?_
      exact j_end (own0 := []) (ro0 := [s.seg l, t.seg more, u.seg ord]) (.inl rfl) rfl (hr1 Try.results5 (rvt (v := (.bool _)) rfl)) [] [0, 1, 2] [] [_, _, _] [] _ rfl rfl (by kernel_rfl) rfl impl_nil (⟨by first | rfl | (exfalso; revert h1; simp), rfl, rfl⟩)
    · replace h1 := ndf h1
      refine c_skip ?_
      refine e_then ?_
      refine c_seq ?_
      refine c_reg ?_
      refine bsl (α := Spare) ([]) Try.underlying22 ty33.sz rfl (by decide) z33 rfl fun b34 => ⟨trivial, ?_⟩
      have hput := put_zero h1
      refine mv (.slice _ _ _) rfl ?_
      refine app 3 (⟨false, b34, 0, []⟩) ([] : List Spare) more (⟨by simp, fun _ => rfl, Nat.le_refl _⟩) rfl ⟨rfl, rfl, rfl⟩ rfl rfl (gives_vs 5 ht rfl) Try.underlying22 Try.underlying22 (.inl ⟨_, rfl⟩) ty33.sz by33 z33 rfl (by simp; omega) rfl fun o36_1 hk36_1 => ⟨trivial, ?_⟩
      refine asg (.slice _ _ _) rfl ?_
      refine jt ?_
      refine c_seq ?_
      refine c_seq ?_
      refine c_reg ?_
      refine asg (.int _ _) rfl ?_
      refine jt ?_
      refine c_block ?_
      refine c_loop (σ := Nat × Ow × Ow × List Spare) (fun ⟨i, o3, o2, rs⟩ => o3.ok (List.map plc (l ++ rs)) ∧ o2.ok rs ∧ ((l ++ rs).map plc).Nodup ∧ (l ++ rs).length ≤ 2000 ∧ i + rs.length = more.length) (fun ⟨i, o3, o2, rs⟩ => rs.length) (fun ⟨i, o3, o2, rs⟩ => [(12, .int .i64 (i : Int)), (11, .slice o2.adr rs.length o2.cap)]) (fun ⟨i, o3, o2, rs⟩ => [[(bs23, .cells (cat [p1 (.int .i64 most), p1 (.map (some m23)), p1 (.slice o3.adr (List.map plc (l ++ rs)).length o3.cap)]) 76)], [(m23, .pred (isMap (List.map skv (l ++ rs))))], o3.seg (List.map plc (l ++ rs)) 72, o2.seg rs 33]) (fun ⟨i, o3, o2, rs⟩ => [s.seg l, t.seg more, u.seg ord]) [8, 11, 12, 13, 14, 15, 16, 17, 37, 38, 39, 40, 41, 42, 43, 44, 45, 46, 47, 48, 49, 50, 51, 52, 53, 54, 55, 56, 57, 58, 59, 60, 61, 62, 63, 64, 65, 66, 67, 68, 69, 70, 71, 72, 73, 74, 75, 76, 77, 78, 79, 80, 81, 82, 83, 84, 85, 86, 87, 88, 89, 90, 91, 92, 93, 94, 95, 96, 97, 98, 99, 100, 101, 102, 103, 104, 105, 106, 107, 108, 109, 110, 111, 112, 113, 114, 115, 116, 117, 118, 119] (⟨0, o31, o36_1, more⟩) (⟨by rw [← hput.2.2]; exact ho31, by simpa using hk36_1, hput.1, by simp; omega, by simp⟩) ⟨rfl, rfl, trivial⟩ (by simp only [hput.2.2]; rfl) rfl ?_
      rintro ⟨i, o3, o2, rs⟩ g1 hI1
      try dsimp only at hI1 ⊢
      refine c_seq ?_
      refine c_seq ?_
      refine c_reg ?_
      refine mv (.slice _ _ _) rfl ?_
      refine lenS rfl Try.underlying22 ?_
      refine cmp _ rfl rfl rfl ?_
      refine jt ?_
      refine c_cond rfl (fun h2 => ?_) (fun h2 => ?_)
      · replace h2 := of_decide_eq_true h2
        refine c_skip ?_
        refine e_then ?_
        refine c_seq ?_
        refine c_block ?_
        refine c_seq ?_
        refine c_reg ?_
        refine asg (.int _ _) rfl ?_
        refine jt ?_
        refine c_seq ?_
        refine c_seq ?_
        refine c_reg ?_
        refine mv (.int _ _) rfl ?_
        refine mv (.slice _ _ _) rfl ?_
        refine lenS rfl Try.underlying50 ?_
        refine cmp _ rfl rfl rfl ?_
        refine jt ?_
        refine c_cond rfl (fun h3 => ?_) (fun h3 => ?_)
        · replace h3 := of_decide_eq_true h3
          refine c_reg ?_
          refine mv (.slice _ _ _) rfl ?_
          refine mv (.int _ _) rfl ?_
          refine ixs u ord i hu rfl rfl rfl Try.underlying50 ty3.sz rfl (by omega) ?_
          refine ldvs 6 _ hu rfl rfl rfl rfl (by first | omega | (simp; done) | (simp; omega) | (simp at *; omega)) ty3 ?_
          refine mv (.slice _ _ _) rfl ?_
          refine lenS rfl Try.underlying22 ?_
          refine remi rfl rfl (by omega) ?_
          have htm := tmod_bd ord[i] (show 0 < rs.length by omega)
          refine asg (.int _ _) rfl ?_
          refine jt ?_
          refine c_seq ?_
          refine c_seq ?_
          refine c_reg ?_
          refine mv (.int _ _) rfl ?_
          refine cmp _ rfl rfl rfl ?_
          refine jt ?_
          refine c_cond rfl (fun h4 => ?_) (fun h4 => ?_)
          · replace h4 := of_decide_eq_true h4
            refine c_reg ?_
            refine mv (.int _ _) rfl ?_
            refine mv (.slice _ _ _) rfl ?_
            refine lenS rfl Try.underlying22 ?_
            refine addi rfl rfl rfl (by omega) ?_
            refine asg (.int _ _) rfl ?_
            refine jt ?_
            refine c_seq ?_
            refine c_drT [_, _, _, _] [] (PT.of [(0, 0), (1, 0), (2, 0), (3, 0), (4, 0), (5, 0), (6, 0), (7, 0), (8, 0), (9, 0), (10, 0)] (.alt (PT.of [(11, 1), (12, 0), (13, 0), (14, 0), (15, 1), (16, 1), (17, 0)] .leaf) (PT.of [(15, 1), (11, 1), (12, 0), (13, 0), (14, 0), (16, 1), (17, 0)] .leaf))) follows (by kernel_rfl) calm_body (keepS [3, 4, 5, 6] rfl) ?_
            refine jt_of [(0, 0), (1, 0), (2, 0), (3, 0), (4, 0), (5, 0), (6, 0), (7, 0), (8, 0), (9, 0), (10, 0)] ?_
            refine mv (.pointer _) rfl ?_
            obtain ⟨kk, hkk, hk1⟩ : ∃ kk : Nat, (kk : Int) = (((ord[i]).tmod (rs.length : Int)) + (rs.length : Int) : Int) ∧ kk < rs.length := ⟨((((ord[i]).tmod (rs.length : Int)) + (rs.length : Int) : Int)).toNat, by omega, by omega⟩
            refine mv (.slice _ _ _) rfl ?_
            refine mv (.int _ _) rfl ?_
            refine ixs ((o2).vs) rs kk (Ow.vs_ok hI1.2.1) rfl rfl rfl Try.underlying22 ty33.sz hkk.symm hk1 ?_
            refine fad rfl Try.underlying33 rfl ty30.sz ?_
            refine ldsof 0 _ 0 hI1.2.1 rfl rfl rfl hk1 rfl rfl ty30 ?_
            refine mv (.slice _ _ _) rfl ?_
            refine mv (.int _ _) rfl ?_
            refine ixs ((o2).vs) rs kk (Ow.vs_ok hI1.2.1) rfl rfl rfl Try.underlying22 ty33.sz hkk.symm hk1 ?_
            refine fad rfl Try.underlying33 rfl ty31.sz ?_
            refine ldsof 0 _ 1 hI1.2.1 rfl rfl rfl hk1 rfl rfl ty31 ?_
            refine j_alt (keepS [3, 4, 5, 6] rfl) ?_
            refine jt_alt ?_ ?_
            · refine jt_fin [(11, 1), (12, 0), (13, 0), (14, 0), (15, 1), (16, 1), (17, 0)] ?_
              refine cal (Take_is bs23 m23 o3 most (l ++ rs) hI1.1 hI1.2.2.2.1 hI1.2.2.1 (rs[kk].header) (rs[kk].n) (l2 := (l ++ (rs.take kk ++ rs.drop (kk + 1)))) (k := rs[kk].message) (f := true) (taken_l hk1 hI1.2.2.1) (taken_k hk1 hI1.2.2.1) (taken_f hk1 hI1.2.2.1)) [0, 1, 2] [3] [_] rfl rfl rfl (by kernel_rfl) impl_nil rfl ?_; rintro _ _ _ ⟨o71, ho71, rfl, rfl, rfl⟩; refine ⟨keepI [0, 4, 5, 6] rfl, ?_⟩
              refine mv (.tuple _) rfl ?_
              refine xtr (.agg _) rfl rfl ?_
              refine xtr (.bool _) rfl rfl ?_
              refine alo [pt (zarr : Key)] _ z30 rfl fun b14 => ⟨keepI [0, 5, 6, 7] rfl, ?_⟩
              refine stw 4 _ [pt (rs[kk].message)] rfl rfl rfl rfl ty30 ⟨keepI [0, 5, 6, 7] rfl, ?_⟩
              refine asg (.bool _) rfl ?_
              refine jt ?_
              refine c_seq ?_
              refine c_drT [_, _, _, _, _] [] (PT.of [(0, 0), (1, 0), (2, 0), (3, 0), (4, 0), (5, 0), (6, 0), (7, 0), (8, 0), (9, 0), (10, 0)] (.alt (PT.of [(11, 1), (12, 0), (13, 0), (14, 0), (15, 1), (16, 1), (17, 0)] .leaf) (PT.of [(15, 1), (11, 1), (12, 0), (13, 0), (14, 0), (16, 1), (17, 0)] .leaf))) follows (by kernel_rfl) calm_body (keepS [0, 4, 5, 6, 7] rfl) ?_
              refine jt_of [(0, 0), (1, 0), (2, 0), (3, 0), (4, 0), (5, 0), (6, 0), (7, 0), (8, 0), (9, 0), (10, 0)] ?_
              refine mv (.pointer _) rfl ?_
              refine mv (.slice _ _ _) rfl ?_
              refine mv (.int _ _) rfl ?_
              refine ixs ((o2).vs) rs kk (Ow.vs_ok hI1.2.1) rfl rfl rfl Try.underlying22 ty33.sz hkk.symm hk1 ?_
              refine fad rfl Try.underlying33 rfl ty30.sz ?_
              refine ldsof 0 _ 0 hI1.2.1 rfl rfl rfl hk1 rfl rfl ty30 ?_
              refine mv (.slice _ _ _) rfl ?_
              refine mv (.int _ _) rfl ?_
              refine ixs ((o2).vs) rs kk (Ow.vs_ok hI1.2.1) rfl rfl rfl Try.underlying22 ty33.sz hkk.symm hk1 ?_
              refine fad rfl Try.underlying33 rfl ty31.sz ?_
              refine ldsof 0 _ 1 hI1.2.1 rfl rfl rfl hk1 rfl rfl ty31 ?_
              refine j_alt (keepS [0, 4, 5, 6, 7] rfl) ?_
              refine jt_alt ?_ ?_
              · refine jt_fin [(11, 1), (12, 0), (13, 0), (14, 0), (15, 1), (16, 1), (17, 0)] ?_
                refine cal (Take_is bs23 m23 o71 most (l ++ (rs.take kk ++ rs.drop (kk + 1))) ho71 (taken_len hk1 hI1.2.2.2.1) (taken_nd hk1 hI1.2.2.1) (rs[kk].header) (rs[kk].n) (l2 := (l ++ (rs.take kk ++ rs.drop (kk + 1)))) (k := zarr) (f := false) (again_l hk1 hI1.2.2.1) (again_k hk1 hI1.2.2.1) (again_f hk1 hI1.2.2.1)) [1, 2, 3] [0, 4] [_, _] rfl rfl rfl (by kernel_rfl) impl_nil rfl ?_; rintro _ _ _ ⟨o86, ho86, rfl, rfl, rfl⟩; refine ⟨keepI [0, 1, 5, 6, 7] rfl, ?_⟩
                refine mv (.tuple _) rfl ?_
                refine xtr (.agg _) rfl rfl ?_
                refine xtr (.bool _) rfl rfl ?_
                refine alo [pt (zarr : Key)] _ z30 rfl fun b16 => ⟨keepI [0, 1, 6, 7, 8] rfl, ?_⟩
                refine stw 5 _ [pt zarr] rfl rfl rfl rfl ty30 ⟨keepI [0, 1, 6, 7, 8] rfl, ?_⟩
                refine asg (.bool _) rfl ?_
                refine jt ?_
                refine c_seq ?_
                refine c_seq ?_
                refine c_dr [_, _, _, _, _, _, _, _, _] [] [(0, 0), (1, 0), (2, 0), (3, 0), (4, 0), (5, 0), (6, 0), (7, 0), (8, 0), (9, 0), (10, 0), (11, 0), (12, 0), (13, 0)] follows (by kernel_rfl) calm_body (keepS [0, 1, 2, 3, 4, 5, 6, 7, 8] rfl) ?_
                refine mv (.bool _) rfl ?_
                refine not_ rfl ?_
                refine mv (.bool _) rfl ?_
                refine g_on rfl rfl rfl ?_
                refine ldp 1 0 _ rfl rfl rfl rfl ty30 ?_
                refine g_on rfl rfl rfl ?_
                refine mv (.slice _ _ _) rfl ?_
                refine g_on rfl rfl rfl ?_
                refine mv (.int _ _) rfl ?_
                refine g_on rfl rfl rfl ?_
                refine ixs ((o2).vs) rs kk (Ow.vs_ok hI1.2.1) rfl rfl rfl Try.underlying22 ty33.sz hkk.symm hk1 ?_
                refine g_on rfl rfl rfl ?_
                refine fad rfl Try.underlying33 rfl ty30.sz ?_
                refine g_on rfl rfl rfl ?_
                refine ldsof 0 _ 2 hI1.2.1 rfl rfl rfl hk1 rfl rfl ty30 ?_
                refine g_on rfl rfl rfl ?_
                refine eqA (rs[kk].message) (rs[kk].message) false rfl rfl rfl rfl eq30 rfl Try.eqGuardType30 (by simp) ?_
                refine pkf (.bool _) rfl rfl ?_
                refine mv (.bool _) rfl ?_
                refine g_on rfl rfl rfl ?_
                refine mv (.bool _) rfl ?_
                refine pkf (.bool _) rfl rfl ?_
                refine jt ?_
                refine c_false rfl ?_
                refine c_skip ?_
                refine e_then ?_
                refine c_seq ?_
                refine c_dr [_, _, _, _, _, _, _, _] [] [(0, 0), (1, 0), (2, 0), (3, 0), (4, 0), (5, 0), (6, 0), (7, 1), (8, 0)] follows (by kernel_rfl) calm_body (keepS [1, 2, 3, 4, 5, 6, 7, 8] rfl) ?_
                refine mv (.slice _ _ _) rfl ?_
                refine mv (.int _ _) rfl ?_
                refine sli ((o2).vs) 0 kk rfl Try.underlying22 ty33.sz rfl (⟨_, congrArg (Value.int .i64) hkk.symm⟩) (by have := hI1.2.1.le; have : o2.vs.cap = o2.cap := rfl; omega) (by have := hI1.2.1.le; have : o2.vs.cap = o2.cap := rfl; omega) (by have := hI1.2.1.le; have : o2.vs.cap = o2.cap := rfl; omega) ?_
                refine mv (.slice _ _ _) rfl ?_
                refine mv (.int _ _) rfl ?_
                refine addi rfl rfl rfl (by omega) ?_
                refine sli ((o2).vs) (kk + 1) rs.length rfl Try.underlying22 ty33.sz (⟨_, congrArg (Value.int .i64) (show _ = ((kk + 1 : Nat) : Int) by omega)⟩) rfl (by have := hI1.2.1.le; have : o2.vs.cap = o2.cap := rfl; omega) (by have := hI1.2.1.le; have : o2.vs.cap = o2.cap := rfl; omega) (by have := hI1.2.1.le; have : o2.vs.cap = o2.cap := rfl; omega) ?_
                refine app 0 (Ow.cut o2 rs kk) (List.take kk rs) (rs.drop (kk + 1)) (Ow.cut_ok hI1.2.1 kk (by omega)) rfl ⟨(sub0 o2 65).1, by simp; omega, (sub0 o2 65).2⟩ (by rw [← Ow.cut_seg]; rfl) rfl (gives_tail 0 (kk + 1) hI1.2.1 (by omega) rfl rfl (by simp)) Try.underlying22 Try.underlying22 (.inl ⟨_, rfl⟩) ty33.sz by33 z33 rfl (by have h9 := hI1.2.2.2.1; simp at h9 ⊢; omega) rfl fun o110_2 hk110_2 => ⟨keepI [1, 2, 3, 4, 5, 6, 7, 8] rfl, ?_⟩
                refine asg (.slice _ _ _) rfl ?_
                refine jt ?_
                refine c_seq ?_
                refine c_reg ?_
                refine mv (.pointer _) rfl ?_
                refine cal (List_ct bs23 m23 o86 most (l ++ (rs.take kk ++ rs.drop (kk + 1))) ho86 (taken_len hk1 hI1.2.2.2.1) (taken_nd hk1 hI1.2.2.1)) [] [0, 1, 2, 3, 4, 5] [_, _, _, _, _, _] rfl rfl rfl (by kernel_rfl) (impl_cons (impl_at 5 rfl) (impl_cons (impl_at 6 rfl) (impl_cons (impl_at 7 rfl) impl_nil))) rfl ?_; rintro _ _ _ ⟨o112, ho112, rfl, rfl, rfl⟩; refine ⟨trivial, ?_⟩
                refine bsl (α := Spare) ([]) Try.underlying22 ty33.sz rfl (by decide) z33 rfl fun b113 => ⟨trivial, ?_⟩
                refine mv (.slice _ _ _) rfl ?_
                refine app 7 (⟨false, b113, 0, []⟩) ([] : List Spare) l (⟨by simp, fun _ => rfl, Nat.le_refl _⟩) rfl ⟨rfl, rfl, rfl⟩ rfl rfl (gives_vs 8 hs rfl) Try.underlying22 Try.underlying22 (.inl ⟨_, rfl⟩) ty33.sz by33 z33 rfl (by have h9 := hI1.2.2.2.1; simp at h9 ⊢; omega) rfl fun o115_3 hk115_3 => ⟨trivial, ?_⟩
                refine mv (.slice _ _ _) rfl ?_
                refine app 7 o115_3 (([] : List Spare) ++ l) ((List.take kk rs) ++ (rs.drop (kk + 1))) hk115_3 rfl ⟨rfl, rfl, rfl⟩ rfl rfl (gives_ow 0 hk110_2 rfl) Try.underlying22 Try.underlying22 (.inl ⟨_, rfl⟩) ty33.sz by33 z33 rfl (by have h9 := hI1.2.2.2.1; simp at h9 ⊢; omega) rfl fun o117_4 hk117_4 => ⟨trivial, ?_⟩
                refine cal (sameSpares_ct ((o112).vs) ((o117_4).vs) (l ++ (rs.take kk ++ rs.drop (kk + 1))) ((([] : List Spare) ++ l) ++ ((List.take kk rs) ++ (rs.drop (kk + 1)))) (Ow.vs_ok ho112) (Ow.vs_ok hk117_4) (by have := taken_len hk1 hI1.2.2.2.1; omega)) [] [0, 1, 2, 3, 4, 5, 6, 7] [_, _, _, _, _, _, _, _] rfl rfl rfl (by kernel_rfl) (impl_cons (ow_impl 9 rfl) (impl_cons (ow_impl 10 rfl) impl_nil)) rfl ?_; rintro _ _ _ ⟨rfl, rfl, rfl⟩; refine ⟨trivial, ?_⟩
                refine not_ rfl ?_
                refine jt ?_
                refine c_cond rfl (fun h5 => ?_) (fun h5 => ?_)
                · replace h5 := ndt h5
                  refine c_seq ?_
                  refine c_reg ?_
                  refine asg (.bool _) rfl ?_
                  refine jt ?_
                  refine c_ret ?_
                  exact j_end (own0 := []) (ro0 := [s.seg l, t.seg more, u.seg ord]) (.inl rfl) rfl (hr1 Try.results5 (rvt (v := (.bool _)) rfl)) [] [0, 1, 2, 3, 4, 5, 6, 7] [] [_, _, _, _, _, _, _, _] [] _ rfl rfl (by kernel_rfl) rfl impl_nil (⟨by first | rfl | (exfalso; revert h5; simp), rfl, rfl⟩)
                · replace h5 := ndf h5
                  refine c_skip ?_
                  refine e_in ?_
                  refine e_then ?_
                  refine c_reg ?_
                  refine mv (.int _ _) rfl ?_
                  refine addi rfl rfl rfl (by omega) ?_
                  refine asg (.int _ _) rfl ?_
                  refine jn ?_
                  refine e_keep [2, 3, 4, 0] [1, 5, 6, 7] [_, _, _, _] rfl (by kernel_rfl) ?_
                  exact e_loop (⟨i + 1, o86, o110_2, (rs.take kk ++ rs.drop (kk + 1))⟩ : Nat × Ow × Ow × List Spare) (⟨ho86, hk110_2, taken_nd hk1 hI1.2.2.1, taken_len hk1 hI1.2.2.2.1, by simp; omega⟩) (by simp; omega) (⟨rfl, rfl, trivial⟩) rfl rfl rfl
              · refine jt_fin [(15, 1), (11, 1), (12, 0), (13, 0), (14, 0), (16, 1), (17, 0)] ?_
                refine alo [pt (zarr : Key)] _ z30 rfl fun b16 => ⟨keepI [0, 4, 6, 7, 8] rfl, ?_⟩
                refine cal (Take_is bs23 m23 o71 most (l ++ (rs.take kk ++ rs.drop (kk + 1))) ho71 (taken_len hk1 hI1.2.2.2.1) (taken_nd hk1 hI1.2.2.1) (rs[kk].header) (rs[kk].n) (l2 := (l ++ (rs.take kk ++ rs.drop (kk + 1)))) (k := zarr) (f := false) (again_l hk1 hI1.2.2.1) (again_k hk1 hI1.2.2.1) (again_f hk1 hI1.2.2.1)) [1, 2, 3] [0, 4, 5] [_, _, _] rfl rfl rfl (by kernel_rfl) impl_nil rfl ?_; rintro _ _ _ ⟨o86, ho86, rfl, rfl, rfl⟩; refine ⟨keepI [0, 1, 6, 7, 8] rfl, ?_⟩
                refine mv (.tuple _) rfl ?_
                refine xtr (.agg _) rfl rfl ?_
                refine xtr (.bool _) rfl rfl ?_
                refine stw 2 _ [pt zarr] rfl rfl rfl rfl ty30 ⟨keepI [0, 1, 6, 7, 8] rfl, ?_⟩
                refine asg (.bool _) rfl ?_
                refine jt ?_
                refine c_seq ?_
                refine c_seq ?_
                refine c_dr [_, _, _, _, _, _, _, _, _] [] [(0, 0), (1, 0), (2, 0), (3, 0), (4, 0), (5, 0), (6, 0), (7, 0), (8, 0), (9, 0), (10, 0), (11, 0), (12, 0), (13, 0)] follows (by kernel_rfl) calm_body (keepS [0, 1, 2, 3, 4, 5, 6, 7, 8] rfl) ?_
                refine mv (.bool _) rfl ?_
                refine not_ rfl ?_
                refine mv (.bool _) rfl ?_
                refine g_on rfl rfl rfl ?_
                refine ldp 1 0 _ rfl rfl rfl rfl ty30 ?_
                refine g_on rfl rfl rfl ?_
                refine mv (.slice _ _ _) rfl ?_
                refine g_on rfl rfl rfl ?_
                refine mv (.int _ _) rfl ?_
                refine g_on rfl rfl rfl ?_
                refine ixs ((o2).vs) rs kk (Ow.vs_ok hI1.2.1) rfl rfl rfl Try.underlying22 ty33.sz hkk.symm hk1 ?_
                refine g_on rfl rfl rfl ?_
                refine fad rfl Try.underlying33 rfl ty30.sz ?_
                refine g_on rfl rfl rfl ?_
                refine ldsof 0 _ 2 hI1.2.1 rfl rfl rfl hk1 rfl rfl ty30 ?_
                refine g_on rfl rfl rfl ?_
                refine eqA (rs[kk].message) (rs[kk].message) false rfl rfl rfl rfl eq30 rfl Try.eqGuardType30 (by simp) ?_
                refine pkf (.bool _) rfl rfl ?_
                refine mv (.bool _) rfl ?_
                refine g_on rfl rfl rfl ?_
                refine mv (.bool _) rfl ?_
                refine pkf (.bool _) rfl rfl ?_
                refine jt ?_
                refine c_false rfl ?_
                refine c_skip ?_
                refine e_then ?_
                refine c_seq ?_
                refine c_dr [_, _, _, _, _, _, _, _] [] [(0, 0), (1, 0), (2, 0), (3, 0), (4, 0), (5, 0), (6, 0), (7, 1), (8, 0)] follows (by kernel_rfl) calm_body (keepS [1, 2, 3, 4, 5, 6, 7, 8] rfl) ?_
                refine mv (.slice _ _ _) rfl ?_
                refine mv (.int _ _) rfl ?_
                refine sli ((o2).vs) 0 kk rfl Try.underlying22 ty33.sz rfl (⟨_, congrArg (Value.int .i64) hkk.symm⟩) (by have := hI1.2.1.le; have : o2.vs.cap = o2.cap := rfl; omega) (by have := hI1.2.1.le; have : o2.vs.cap = o2.cap := rfl; omega) (by have := hI1.2.1.le; have : o2.vs.cap = o2.cap := rfl; omega) ?_
                refine mv (.slice _ _ _) rfl ?_
                refine mv (.int _ _) rfl ?_
                refine addi rfl rfl rfl (by omega) ?_
                refine sli ((o2).vs) (kk + 1) rs.length rfl Try.underlying22 ty33.sz (⟨_, congrArg (Value.int .i64) (show _ = ((kk + 1 : Nat) : Int) by omega)⟩) rfl (by have := hI1.2.1.le; have : o2.vs.cap = o2.cap := rfl; omega) (by have := hI1.2.1.le; have : o2.vs.cap = o2.cap := rfl; omega) (by have := hI1.2.1.le; have : o2.vs.cap = o2.cap := rfl; omega) ?_
                refine app 0 (Ow.cut o2 rs kk) (List.take kk rs) (rs.drop (kk + 1)) (Ow.cut_ok hI1.2.1 kk (by omega)) rfl ⟨(sub0 o2 65).1, by simp; omega, (sub0 o2 65).2⟩ (by rw [← Ow.cut_seg]; rfl) rfl (gives_tail 0 (kk + 1) hI1.2.1 (by omega) rfl rfl (by simp)) Try.underlying22 Try.underlying22 (.inl ⟨_, rfl⟩) ty33.sz by33 z33 rfl (by have h9 := hI1.2.2.2.1; simp at h9 ⊢; omega) rfl fun o110_5 hk110_5 => ⟨keepI [1, 2, 3, 4, 5, 6, 7, 8] rfl, ?_⟩
                refine asg (.slice _ _ _) rfl ?_
                refine jt ?_
                refine c_seq ?_
                refine c_reg ?_
                refine mv (.pointer _) rfl ?_
                refine cal (List_ct bs23 m23 o86 most (l ++ (rs.take kk ++ rs.drop (kk + 1))) ho86 (taken_len hk1 hI1.2.2.2.1) (taken_nd hk1 hI1.2.2.1)) [] [0, 1, 2, 3, 4, 5] [_, _, _, _, _, _] rfl rfl rfl (by kernel_rfl) (impl_cons (impl_at 6 rfl) (impl_cons (impl_at 7 rfl) (impl_cons (impl_at 8 rfl) impl_nil))) rfl ?_; rintro _ _ _ ⟨o112, ho112, rfl, rfl, rfl⟩; refine ⟨trivial, ?_⟩
                refine bsl (α := Spare) ([]) Try.underlying22 ty33.sz rfl (by decide) z33 rfl fun b113 => ⟨trivial, ?_⟩
                refine mv (.slice _ _ _) rfl ?_
                refine app 7 (⟨false, b113, 0, []⟩) ([] : List Spare) l (⟨by simp, fun _ => rfl, Nat.le_refl _⟩) rfl ⟨rfl, rfl, rfl⟩ rfl rfl (gives_vs 8 hs rfl) Try.underlying22 Try.underlying22 (.inl ⟨_, rfl⟩) ty33.sz by33 z33 rfl (by have h9 := hI1.2.2.2.1; simp at h9 ⊢; omega) rfl fun o115_6 hk115_6 => ⟨trivial, ?_⟩
                refine mv (.slice _ _ _) rfl ?_
                refine app 7 o115_6 (([] : List Spare) ++ l) ((List.take kk rs) ++ (rs.drop (kk + 1))) hk115_6 rfl ⟨rfl, rfl, rfl⟩ rfl rfl (gives_ow 0 hk110_5 rfl) Try.underlying22 Try.underlying22 (.inl ⟨_, rfl⟩) ty33.sz by33 z33 rfl (by have h9 := hI1.2.2.2.1; simp at h9 ⊢; omega) rfl fun o117_7 hk117_7 => ⟨trivial, ?_⟩
                refine cal (sameSpares_ct ((o112).vs) ((o117_7).vs) (l ++ (rs.take kk ++ rs.drop (kk + 1))) ((([] : List Spare) ++ l) ++ ((List.take kk rs) ++ (rs.drop (kk + 1)))) (Ow.vs_ok ho112) (Ow.vs_ok hk117_7) (by have := taken_len hk1 hI1.2.2.2.1; omega)) [] [0, 1, 2, 3, 4, 5, 6, 7] [_, _, _, _, _, _, _, _] rfl rfl rfl (by kernel_rfl) (impl_cons (ow_impl 9 rfl) (impl_cons (ow_impl 10 rfl) impl_nil)) rfl ?_; rintro _ _ _ ⟨rfl, rfl, rfl⟩; refine ⟨trivial, ?_⟩
                refine not_ rfl ?_
                refine jt ?_
                refine c_cond rfl (fun h6 => ?_) (fun h6 => ?_)
                · replace h6 := ndt h6
                  refine c_seq ?_
                  refine c_reg ?_
                  refine asg (.bool _) rfl ?_
                  refine jt ?_
                  refine c_ret ?_
                  exact j_end (own0 := []) (ro0 := [s.seg l, t.seg more, u.seg ord]) (.inl rfl) rfl (hr1 Try.results5 (rvt (v := (.bool _)) rfl)) [] [0, 1, 2, 3, 4, 5, 6, 7] [] [_, _, _, _, _, _, _, _] [] _ rfl rfl (by kernel_rfl) rfl impl_nil (⟨by first | rfl | (exfalso; revert h6; simp), rfl, rfl⟩)
                · replace h6 := ndf h6
                  refine c_skip ?_
                  refine e_in ?_
                  refine e_then ?_
                  refine c_reg ?_
                  refine mv (.int _ _) rfl ?_
                  refine addi rfl rfl rfl (by omega) ?_
                  refine asg (.int _ _) rfl ?_
                  refine jn ?_
                  refine e_keep [3, 4, 5, 0] [1, 2, 6, 7] [_, _, _, _] rfl (by kernel_rfl) ?_
                  exact e_loop (⟨i + 1, o86, o110_5, (rs.take kk ++ rs.drop (kk + 1))⟩ : Nat × Ow × Ow × List Spare) (⟨ho86, hk110_5, taken_nd hk1 hI1.2.2.1, taken_len hk1 hI1.2.2.2.1, by simp; omega⟩) (by simp; omega) (⟨rfl, rfl, trivial⟩) rfl rfl rfl
            · refine jt_fin [(15, 1), (11, 1), (12, 0), (13, 0), (14, 0), (16, 1), (17, 0)] ?_
              refine alo [pt (zarr : Key)] _ z30 rfl fun b14 => ⟨keepI [3, 5, 6, 7] rfl, ?_⟩
              refine cal (Take_is bs23 m23 o3 most (l ++ rs) hI1.1 hI1.2.2.2.1 hI1.2.2.1 (rs[kk].header) (rs[kk].n) (l2 := (l ++ (rs.take kk ++ rs.drop (kk + 1)))) (k := rs[kk].message) (f := true) (taken_l hk1 hI1.2.2.1) (taken_k hk1 hI1.2.2.1) (taken_f hk1 hI1.2.2.1)) [0, 1, 2] [3, 4] [_, _] rfl rfl rfl (by kernel_rfl) impl_nil rfl ?_; rintro _ _ _ ⟨o71, ho71, rfl, rfl, rfl⟩; refine ⟨keepI [0, 5, 6, 7] rfl, ?_⟩
              refine mv (.tuple _) rfl ?_
              refine xtr (.agg _) rfl rfl ?_
              refine xtr (.bool _) rfl rfl ?_
              refine stw 1 _ [pt (rs[kk].message)] rfl rfl rfl rfl ty30 ⟨keepI [0, 5, 6, 7] rfl, ?_⟩
              refine asg (.bool _) rfl ?_
              refine jt ?_
              refine c_seq ?_
              refine c_drT [_, _, _, _, _] [] (PT.of [(0, 0), (1, 0), (2, 0), (3, 0), (4, 0), (5, 0), (6, 0), (7, 0), (8, 0), (9, 0), (10, 0)] (.alt (PT.of [(11, 1), (12, 0), (13, 0), (14, 0), (15, 1), (16, 1), (17, 0)] .leaf) (PT.of [(15, 1), (11, 1), (12, 0), (13, 0), (14, 0), (16, 1), (17, 0)] .leaf))) follows (by kernel_rfl) calm_body (keepS [0, 1, 5, 6, 7] rfl) ?_
              refine jt_of [(0, 0), (1, 0), (2, 0), (3, 0), (4, 0), (5, 0), (6, 0), (7, 0), (8, 0), (9, 0), (10, 0)] ?_
              refine mv (.pointer _) rfl ?_
              refine mv (.slice _ _ _) rfl ?_
              refine mv (.int _ _) rfl ?_
              refine ixs ((o2).vs) rs kk (Ow.vs_ok hI1.2.1) rfl rfl rfl Try.underlying22 ty33.sz hkk.symm hk1 ?_
              refine fad rfl Try.underlying33 rfl ty30.sz ?_
              refine ldsof 0 _ 0 hI1.2.1 rfl rfl rfl hk1 rfl rfl ty30 ?_
              refine mv (.slice _ _ _) rfl ?_
              refine mv (.int _ _) rfl ?_
              refine ixs ((o2).vs) rs kk (Ow.vs_ok hI1.2.1) rfl rfl rfl Try.underlying22 ty33.sz hkk.symm hk1 ?_
              refine fad rfl Try.underlying33 rfl ty31.sz ?_
              refine ldsof 0 _ 1 hI1.2.1 rfl rfl rfl hk1 rfl rfl ty31 ?_
              refine j_alt (keepS [0, 1, 5, 6, 7] rfl) ?_
              refine jt_alt ?_ ?_
              · refine jt_fin [(11, 1), (12, 0), (13, 0), (14, 0), (15, 1), (16, 1), (17, 0)] ?_
                refine cal (Take_is bs23 m23 o71 most (l ++ (rs.take kk ++ rs.drop (kk + 1))) ho71 (taken_len hk1 hI1.2.2.2.1) (taken_nd hk1 hI1.2.2.1) (rs[kk].header) (rs[kk].n) (l2 := (l ++ (rs.take kk ++ rs.drop (kk + 1)))) (k := zarr) (f := false) (again_l hk1 hI1.2.2.1) (again_k hk1 hI1.2.2.1) (again_f hk1 hI1.2.2.1)) [2, 3, 4] [0, 1] [_, _] rfl rfl rfl (by kernel_rfl) impl_nil rfl ?_; rintro _ _ _ ⟨o86, ho86, rfl, rfl, rfl⟩; refine ⟨keepI [0, 1, 5, 6, 7] rfl, ?_⟩
                refine mv (.tuple _) rfl ?_
                refine xtr (.agg _) rfl rfl ?_
                refine xtr (.bool _) rfl rfl ?_
                refine alo [pt (zarr : Key)] _ z30 rfl fun b16 => ⟨keepI [0, 1, 6, 7, 8] rfl, ?_⟩
                refine stw 5 _ [pt zarr] rfl rfl rfl rfl ty30 ⟨keepI [0, 1, 6, 7, 8] rfl, ?_⟩
                refine asg (.bool _) rfl ?_
                refine jt ?_
                refine c_seq ?_
                refine c_seq ?_
                refine c_dr [_, _, _, _, _, _, _, _, _] [] [(0, 0), (1, 0), (2, 0), (3, 0), (4, 0), (5, 0), (6, 0), (7, 0), (8, 0), (9, 0), (10, 0), (11, 0), (12, 0), (13, 0)] follows (by kernel_rfl) calm_body (keepS [0, 1, 2, 3, 4, 5, 6, 7, 8] rfl) ?_
                refine mv (.bool _) rfl ?_
                refine not_ rfl ?_
                refine mv (.bool _) rfl ?_
                refine g_on rfl rfl rfl ?_
                refine ldp 1 0 _ rfl rfl rfl rfl ty30 ?_
                refine g_on rfl rfl rfl ?_
                refine mv (.slice _ _ _) rfl ?_
                refine g_on rfl rfl rfl ?_
                refine mv (.int _ _) rfl ?_
                refine g_on rfl rfl rfl ?_
                refine ixs ((o2).vs) rs kk (Ow.vs_ok hI1.2.1) rfl rfl rfl Try.underlying22 ty33.sz hkk.symm hk1 ?_
                refine g_on rfl rfl rfl ?_
                refine fad rfl Try.underlying33 rfl ty30.sz ?_
                refine g_on rfl rfl rfl ?_
                refine ldsof 0 _ 2 hI1.2.1 rfl rfl rfl hk1 rfl rfl ty30 ?_
                refine g_on rfl rfl rfl ?_
                refine eqA (rs[kk].message) (rs[kk].message) false rfl rfl rfl rfl eq30 rfl Try.eqGuardType30 (by simp) ?_
                refine pkf (.bool _) rfl rfl ?_
                refine mv (.bool _) rfl ?_
                refine g_on rfl rfl rfl ?_
                refine mv (.bool _) rfl ?_
                refine pkf (.bool _) rfl rfl ?_
                refine jt ?_
                refine c_false rfl ?_
                refine c_skip ?_
                refine e_then ?_
                refine c_seq ?_
                refine c_dr [_, _, _, _, _, _, _, _] [] [(0, 0), (1, 0), (2, 0), (3, 0), (4, 0), (5, 0), (6, 0), (7, 1), (8, 0)] follows (by kernel_rfl) calm_body (keepS [1, 2, 3, 4, 5, 6, 7, 8] rfl) ?_
                refine mv (.slice _ _ _) rfl ?_
                refine mv (.int _ _) rfl ?_
                refine sli ((o2).vs) 0 kk rfl Try.underlying22 ty33.sz rfl (⟨_, congrArg (Value.int .i64) hkk.symm⟩) (by have := hI1.2.1.le; have : o2.vs.cap = o2.cap := rfl; omega) (by have := hI1.2.1.le; have : o2.vs.cap = o2.cap := rfl; omega) (by have := hI1.2.1.le; have : o2.vs.cap = o2.cap := rfl; omega) ?_
                refine mv (.slice _ _ _) rfl ?_
                refine mv (.int _ _) rfl ?_
                refine addi rfl rfl rfl (by omega) ?_
                refine sli ((o2).vs) (kk + 1) rs.length rfl Try.underlying22 ty33.sz (⟨_, congrArg (Value.int .i64) (show _ = ((kk + 1 : Nat) : Int) by omega)⟩) rfl (by have := hI1.2.1.le; have : o2.vs.cap = o2.cap := rfl; omega) (by have := hI1.2.1.le; have : o2.vs.cap = o2.cap := rfl; omega) (by have := hI1.2.1.le; have : o2.vs.cap = o2.cap := rfl; omega) ?_
                refine app 0 (Ow.cut o2 rs kk) (List.take kk rs) (rs.drop (kk + 1)) (Ow.cut_ok hI1.2.1 kk (by omega)) rfl ⟨(sub0 o2 65).1, by simp; omega, (sub0 o2 65).2⟩ (by rw [← Ow.cut_seg]; rfl) rfl (gives_tail 0 (kk + 1) hI1.2.1 (by omega) rfl rfl (by simp)) Try.underlying22 Try.underlying22 (.inl ⟨_, rfl⟩) ty33.sz by33 z33 rfl (by have h9 := hI1.2.2.2.1; simp at h9 ⊢; omega) rfl fun o110_8 hk110_8 => ⟨keepI [1, 2, 3, 4, 5, 6, 7, 8] rfl, ?_⟩
                refine asg (.slice _ _ _) rfl ?_
                refine jt ?_
                refine c_seq ?_
                refine c_reg ?_
                refine mv (.pointer _) rfl ?_
                refine cal (List_ct bs23 m23 o86 most (l ++ (rs.take kk ++ rs.drop (kk + 1))) ho86 (taken_len hk1 hI1.2.2.2.1) (taken_nd hk1 hI1.2.2.1)) [] [0, 1, 2, 3, 4, 5] [_, _, _, _, _, _] rfl rfl rfl (by kernel_rfl) (impl_cons (impl_at 5 rfl) (impl_cons (impl_at 6 rfl) (impl_cons (impl_at 7 rfl) impl_nil))) rfl ?_; rintro _ _ _ ⟨o112, ho112, rfl, rfl, rfl⟩; refine ⟨trivial, ?_⟩
                refine bsl (α := Spare) ([]) Try.underlying22 ty33.sz rfl (by decide) z33 rfl fun b113 => ⟨trivial, ?_⟩
                refine mv (.slice _ _ _) rfl ?_
                refine app 7 (⟨false, b113, 0, []⟩) ([] : List Spare) l (⟨by simp, fun _ => rfl, Nat.le_refl _⟩) rfl ⟨rfl, rfl, rfl⟩ rfl rfl (gives_vs 8 hs rfl) Try.underlying22 Try.underlying22 (.inl ⟨_, rfl⟩) ty33.sz by33 z33 rfl (by have h9 := hI1.2.2.2.1; simp at h9 ⊢; omega) rfl fun o115_9 hk115_9 => ⟨trivial, ?_⟩
                refine mv (.slice _ _ _) rfl ?_
                refine app 7 o115_9 (([] : List Spare) ++ l) ((List.take kk rs) ++ (rs.drop (kk + 1))) hk115_9 rfl ⟨rfl, rfl, rfl⟩ rfl rfl (gives_ow 0 hk110_8 rfl) Try.underlying22 Try.underlying22 (.inl ⟨_, rfl⟩) ty33.sz by33 z33 rfl (by have h9 := hI1.2.2.2.1; simp at h9 ⊢; omega) rfl fun o117_10 hk117_10 => ⟨trivial, ?_⟩
                refine cal (sameSpares_ct ((o112).vs) ((o117_10).vs) (l ++ (rs.take kk ++ rs.drop (kk + 1))) ((([] : List Spare) ++ l) ++ ((List.take kk rs) ++ (rs.drop (kk + 1)))) (Ow.vs_ok ho112) (Ow.vs_ok hk117_10) (by have := taken_len hk1 hI1.2.2.2.1; omega)) [] [0, 1, 2, 3, 4, 5, 6, 7] [_, _, _, _, _, _, _, _] rfl rfl rfl (by kernel_rfl) (impl_cons (ow_impl 9 rfl) (impl_cons (ow_impl 10 rfl) impl_nil)) rfl ?_; rintro _ _ _ ⟨rfl, rfl, rfl⟩; refine ⟨trivial, ?_⟩
                refine not_ rfl ?_
                refine jt ?_
                refine c_cond rfl (fun h7 => ?_) (fun h7 => ?_)
                · replace h7 := ndt h7
                  refine c_seq ?_
                  refine c_reg ?_
                  refine asg (.bool _) rfl ?_
                  refine jt ?_
                  refine c_ret ?_
                  exact j_end (own0 := []) (ro0 := [s.seg l, t.seg more, u.seg ord]) (.inl rfl) rfl (hr1 Try.results5 (rvt (v := (.bool _)) rfl)) [] [0, 1, 2, 3, 4, 5, 6, 7] [] [_, _, _, _, _, _, _, _] [] _ rfl rfl (by kernel_rfl) rfl impl_nil (⟨by first | rfl | (exfalso; revert h7; simp), rfl, rfl⟩)
                · replace h7 := ndf h7
                  refine c_skip ?_
                  refine e_in ?_
                  refine e_then ?_
                  refine c_reg ?_
                  refine mv (.int _ _) rfl ?_
                  refine addi rfl rfl rfl (by omega) ?_
                  refine asg (.int _ _) rfl ?_
                  refine jn ?_
                  refine e_keep [2, 3, 4, 0] [1, 5, 6, 7] [_, _, _, _] rfl (by kernel_rfl) ?_
                  exact e_loop (⟨i + 1, o86, o110_8, (rs.take kk ++ rs.drop (kk + 1))⟩ : Nat × Ow × Ow × List Spare) (⟨ho86, hk110_8, taken_nd hk1 hI1.2.2.1, taken_len hk1 hI1.2.2.2.1, by simp; omega⟩) (by simp; omega) (⟨rfl, rfl, trivial⟩) rfl rfl rfl
              · refine jt_fin [(15, 1), (11, 1), (12, 0), (13, 0), (14, 0), (16, 1), (17, 0)] ?_
                refine alo [pt (zarr : Key)] _ z30 rfl fun b16 => ⟨keepI [0, 1, 6, 7, 8] rfl, ?_⟩
                refine cal (Take_is bs23 m23 o71 most (l ++ (rs.take kk ++ rs.drop (kk + 1))) ho71 (taken_len hk1 hI1.2.2.2.1) (taken_nd hk1 hI1.2.2.1) (rs[kk].header) (rs[kk].n) (l2 := (l ++ (rs.take kk ++ rs.drop (kk + 1)))) (k := zarr) (f := false) (again_l hk1 hI1.2.2.1) (again_k hk1 hI1.2.2.1) (again_f hk1 hI1.2.2.1)) [2, 3, 4] [0, 1, 5] [_, _, _] rfl rfl rfl (by kernel_rfl) impl_nil rfl ?_; rintro _ _ _ ⟨o86, ho86, rfl, rfl, rfl⟩; refine ⟨keepI [0, 1, 6, 7, 8] rfl, ?_⟩
                refine mv (.tuple _) rfl ?_
                refine xtr (.agg _) rfl rfl ?_
                refine xtr (.bool _) rfl rfl ?_
                refine stw 2 _ [pt zarr] rfl rfl rfl rfl ty30 ⟨keepI [0, 1, 6, 7, 8] rfl, ?_⟩
                refine asg (.bool _) rfl ?_
                refine jt ?_
                refine c_seq ?_
                refine c_seq ?_
                refine c_dr [_, _, _, _, _, _, _, _, _] [] [(0, 0), (1, 0), (2, 0), (3, 0), (4, 0), (5, 0), (6, 0), (7, 0), (8, 0), (9, 0), (10, 0), (11, 0), (12, 0), (13, 0)] follows (by kernel_rfl) calm_body (keepS [0, 1, 2, 3, 4, 5, 6, 7, 8] rfl) ?_
                refine mv (.bool _) rfl ?_
                refine not_ rfl ?_
                refine mv (.bool _) rfl ?_
                refine g_on rfl rfl rfl ?_
                refine ldp 1 0 _ rfl rfl rfl rfl ty30 ?_
                refine g_on rfl rfl rfl ?_
                refine mv (.slice _ _ _) rfl ?_
                refine g_on rfl rfl rfl ?_
                refine mv (.int _ _) rfl ?_
                refine g_on rfl rfl rfl ?_
                refine ixs ((o2).vs) rs kk (Ow.vs_ok hI1.2.1) rfl rfl rfl Try.underlying22 ty33.sz hkk.symm hk1 ?_
                refine g_on rfl rfl rfl ?_
                refine fad rfl Try.underlying33 rfl ty30.sz ?_
                refine g_on rfl rfl rfl ?_
                refine ldsof 0 _ 2 hI1.2.1 rfl rfl rfl hk1 rfl rfl ty30 ?_
                refine g_on rfl rfl rfl ?_
                refine eqA (rs[kk].message) (rs[kk].message) false rfl rfl rfl rfl eq30 rfl Try.eqGuardType30 (by simp) ?_
                refine pkf (.bool _) rfl rfl ?_
                refine mv (.bool _) rfl ?_
                refine g_on rfl rfl rfl ?_
                refine mv (.bool _) rfl ?_
                refine pkf (.bool _) rfl rfl ?_
                refine jt ?_
                refine c_false rfl ?_
                refine c_skip ?_
                refine e_then ?_
                refine c_seq ?_
                refine c_dr [_, _, _, _, _, _, _, _] [] [(0, 0), (1, 0), (2, 0), (3, 0), (4, 0), (5, 0), (6, 0), (7, 1), (8, 0)] follows (by kernel_rfl) calm_body (keepS [1, 2, 3, 4, 5, 6, 7, 8] rfl) ?_
                refine mv (.slice _ _ _) rfl ?_
                refine mv (.int _ _) rfl ?_
                refine sli ((o2).vs) 0 kk rfl Try.underlying22 ty33.sz rfl (⟨_, congrArg (Value.int .i64) hkk.symm⟩) (by have := hI1.2.1.le; have : o2.vs.cap = o2.cap := rfl; omega) (by have := hI1.2.1.le; have : o2.vs.cap = o2.cap := rfl; omega) (by have := hI1.2.1.le; have : o2.vs.cap = o2.cap := rfl; omega) ?_
                refine mv (.slice _ _ _) rfl ?_
                refine mv (.int _ _) rfl ?_
                refine addi rfl rfl rfl (by omega) ?_
                refine sli ((o2).vs) (kk + 1) rs.length rfl Try.underlying22 ty33.sz (⟨_, congrArg (Value.int .i64) (show _ = ((kk + 1 : Nat) : Int) by omega)⟩) rfl (by have := hI1.2.1.le; have : o2.vs.cap = o2.cap := rfl; omega) (by have := hI1.2.1.le; have : o2.vs.cap = o2.cap := rfl; omega) (by have := hI1.2.1.le; have : o2.vs.cap = o2.cap := rfl; omega) ?_
                refine app 0 (Ow.cut o2 rs kk) (List.take kk rs) (rs.drop (kk + 1)) (Ow.cut_ok hI1.2.1 kk (by omega)) rfl ⟨(sub0 o2 65).1, by simp; omega, (sub0 o2 65).2⟩ (by rw [← Ow.cut_seg]; rfl) rfl (gives_tail 0 (kk + 1) hI1.2.1 (by omega) rfl rfl (by simp)) Try.underlying22 Try.underlying22 (.inl ⟨_, rfl⟩) ty33.sz by33 z33 rfl (by have h9 := hI1.2.2.2.1; simp at h9 ⊢; omega) rfl fun o110_11 hk110_11 => ⟨keepI [1, 2, 3, 4, 5, 6, 7, 8] rfl, ?_⟩
                refine asg (.slice _ _ _) rfl ?_
                refine jt ?_
                refine c_seq ?_
                refine c_reg ?_
                refine mv (.pointer _) rfl ?_
                refine cal (List_ct bs23 m23 o86 most (l ++ (rs.take kk ++ rs.drop (kk + 1))) ho86 (taken_len hk1 hI1.2.2.2.1) (taken_nd hk1 hI1.2.2.1)) [] [0, 1, 2, 3, 4, 5] [_, _, _, _, _, _] rfl rfl rfl (by kernel_rfl) (impl_cons (impl_at 6 rfl) (impl_cons (impl_at 7 rfl) (impl_cons (impl_at 8 rfl) impl_nil))) rfl ?_; rintro _ _ _ ⟨o112, ho112, rfl, rfl, rfl⟩; refine ⟨trivial, ?_⟩
                refine bsl (α := Spare) ([]) Try.underlying22 ty33.sz rfl (by decide) z33 rfl fun b113 => ⟨trivial, ?_⟩
                refine mv (.slice _ _ _) rfl ?_
                refine app 7 (⟨false, b113, 0, []⟩) ([] : List Spare) l (⟨by simp, fun _ => rfl, Nat.le_refl _⟩) rfl ⟨rfl, rfl, rfl⟩ rfl rfl (gives_vs 8 hs rfl) Try.underlying22 Try.underlying22 (.inl ⟨_, rfl⟩) ty33.sz by33 z33 rfl (by have h9 := hI1.2.2.2.1; simp at h9 ⊢; omega) rfl fun o115_12 hk115_12 => ⟨trivial, ?_⟩
                refine mv (.slice _ _ _) rfl ?_
                refine app 7 o115_12 (([] : List Spare) ++ l) ((List.take kk rs) ++ (rs.drop (kk + 1))) hk115_12 rfl ⟨rfl, rfl, rfl⟩ rfl rfl (gives_ow 0 hk110_11 rfl) Try.underlying22 Try.underlying22 (.inl ⟨_, rfl⟩) ty33.sz by33 z33 rfl (by have h9 := hI1.2.2.2.1; simp at h9 ⊢; omega) rfl fun o117_13 hk117_13 => ⟨trivial, ?_⟩
                refine cal (sameSpares_ct ((o112).vs) ((o117_13).vs) (l ++ (rs.take kk ++ rs.drop (kk + 1))) ((([] : List Spare) ++ l) ++ ((List.take kk rs) ++ (rs.drop (kk + 1)))) (Ow.vs_ok ho112) (Ow.vs_ok hk117_13) (by have := taken_len hk1 hI1.2.2.2.1; omega)) [] [0, 1, 2, 3, 4, 5, 6, 7] [_, _, _, _, _, _, _, _] rfl rfl rfl (by kernel_rfl) (impl_cons (ow_impl 9 rfl) (impl_cons (ow_impl 10 rfl) impl_nil)) rfl ?_; rintro _ _ _ ⟨rfl, rfl, rfl⟩; refine ⟨trivial, ?_⟩
                refine not_ rfl ?_
                refine jt ?_
                refine c_cond rfl (fun h8 => ?_) (fun h8 => ?_)
                · replace h8 := ndt h8
                  refine c_seq ?_
                  refine c_reg ?_
                  refine asg (.bool _) rfl ?_
                  refine jt ?_
                  refine c_ret ?_
                  exact j_end (own0 := []) (ro0 := [s.seg l, t.seg more, u.seg ord]) (.inl rfl) rfl (hr1 Try.results5 (rvt (v := (.bool _)) rfl)) [] [0, 1, 2, 3, 4, 5, 6, 7] [] [_, _, _, _, _, _, _, _] [] _ rfl rfl (by kernel_rfl) rfl impl_nil (⟨by first | rfl | (exfalso; revert h8; simp), rfl, rfl⟩)
                · replace h8 := ndf h8
                  refine c_skip ?_
                  refine e_in ?_
                  refine e_then ?_
                  refine c_reg ?_
                  refine mv (.int _ _) rfl ?_
                  refine addi rfl rfl rfl (by omega) ?_
                  refine asg (.int _ _) rfl ?_
                  refine jn ?_
                  refine e_keep [3, 4, 5, 0] [1, 2, 6, 7] [_, _, _, _] rfl (by kernel_rfl) ?_
                  exact e_loop (⟨i + 1, o86, o110_11, (rs.take kk ++ rs.drop (kk + 1))⟩ : Nat × Ow × Ow × List Spare) (⟨ho86, hk110_11, taken_nd hk1 hI1.2.2.1, taken_len hk1 hI1.2.2.2.1, by simp; omega⟩) (by simp; omega) (⟨rfl, rfl, trivial⟩) rfl rfl rfl
          · replace h4 := of_decide_eq_false h4
            refine c_skip ?_
            refine e_then ?_
            refine c_seq ?_
            refine c_drT [_, _, _, _] [] (PT.of [(0, 0), (1, 0), (2, 0), (3, 0), (4, 0), (5, 0), (6, 0), (7, 0), (8, 0), (9, 0), (10, 0)] (.alt (PT.of [(11, 1), (12, 0), (13, 0), (14, 0), (15, 1), (16, 1), (17, 0)] .leaf) (PT.of [(15, 1), (11, 1), (12, 0), (13, 0), (14, 0), (16, 1), (17, 0)] .leaf))) follows (by kernel_rfl) calm_body (keepS [3, 4, 5, 6] rfl) ?_
            refine jt_of [(0, 0), (1, 0), (2, 0), (3, 0), (4, 0), (5, 0), (6, 0), (7, 0), (8, 0), (9, 0), (10, 0)] ?_
            refine mv (.pointer _) rfl ?_
            obtain ⟨kk, hkk, hk1⟩ : ∃ kk : Nat, (kk : Int) = ((ord[i]).tmod (rs.length : Int) : Int) ∧ kk < rs.length := ⟨(((ord[i]).tmod (rs.length : Int) : Int)).toNat, by omega, by omega⟩
            refine mv (.slice _ _ _) rfl ?_
            refine mv (.int _ _) rfl ?_
            refine ixs ((o2).vs) rs kk (Ow.vs_ok hI1.2.1) rfl rfl rfl Try.underlying22 ty33.sz hkk.symm hk1 ?_
            refine fad rfl Try.underlying33 rfl ty30.sz ?_
            refine ldsof 0 _ 0 hI1.2.1 rfl rfl rfl hk1 rfl rfl ty30 ?_
            refine mv (.slice _ _ _) rfl ?_
            refine mv (.int _ _) rfl ?_
            refine ixs ((o2).vs) rs kk (Ow.vs_ok hI1.2.1) rfl rfl rfl Try.underlying22 ty33.sz hkk.symm hk1 ?_
            refine fad rfl Try.underlying33 rfl ty31.sz ?_
            refine ldsof 0 _ 1 hI1.2.1 rfl rfl rfl hk1 rfl rfl ty31 ?_
            refine j_alt (keepS [3, 4, 5, 6] rfl) ?_
            refine jt_alt ?_ ?_
            · refine jt_fin [(11, 1), (12, 0), (13, 0), (14, 0), (15, 1), (16, 1), (17, 0)] ?_
              refine cal (Take_is bs23 m23 o3 most (l ++ rs) hI1.1 hI1.2.2.2.1 hI1.2.2.1 (rs[kk].header) (rs[kk].n) (l2 := (l ++ (rs.take kk ++ rs.drop (kk + 1)))) (k := rs[kk].message) (f := true) (taken_l hk1 hI1.2.2.1) (taken_k hk1 hI1.2.2.1) (taken_f hk1 hI1.2.2.1)) [0, 1, 2] [3] [_] rfl rfl rfl (by kernel_rfl) impl_nil rfl ?_; rintro _ _ _ ⟨o71, ho71, rfl, rfl, rfl⟩; refine ⟨keepI [0, 4, 5, 6] rfl, ?_⟩
              refine mv (.tuple _) rfl ?_
              refine xtr (.agg _) rfl rfl ?_
              refine xtr (.bool _) rfl rfl ?_
              refine alo [pt (zarr : Key)] _ z30 rfl fun b14 => ⟨keepI [0, 5, 6, 7] rfl, ?_⟩
              refine stw 4 _ [pt (rs[kk].message)] rfl rfl rfl rfl ty30 ⟨keepI [0, 5, 6, 7] rfl, ?_⟩
              refine asg (.bool _) rfl ?_
              refine jt ?_
              refine c_seq ?_
              refine c_drT [_, _, _, _, _] [] (PT.of [(0, 0), (1, 0), (2, 0), (3, 0), (4, 0), (5, 0), (6, 0), (7, 0), (8, 0), (9, 0), (10, 0)] (.alt (PT.of [(11, 1), (12, 0), (13, 0), (14, 0), (15, 1), (16, 1), (17, 0)] .leaf) (PT.of [(15, 1), (11, 1), (12, 0), (13, 0), (14, 0), (16, 1), (17, 0)] .leaf))) follows (by kernel_rfl) calm_body (keepS [0, 4, 5, 6, 7] rfl) ?_
              refine jt_of [(0, 0), (1, 0), (2, 0), (3, 0), (4, 0), (5, 0), (6, 0), (7, 0), (8, 0), (9, 0), (10, 0)] ?_
              refine mv (.pointer _) rfl ?_
              refine mv (.slice _ _ _) rfl ?_
              refine mv (.int _ _) rfl ?_
              refine ixs ((o2).vs) rs kk (Ow.vs_ok hI1.2.1) rfl rfl rfl Try.underlying22 ty33.sz hkk.symm hk1 ?_
              refine fad rfl Try.underlying33 rfl ty30.sz ?_
              refine ldsof 0 _ 0 hI1.2.1 rfl rfl rfl hk1 rfl rfl ty30 ?_
              refine mv (.slice _ _ _) rfl ?_
              refine mv (.int _ _) rfl ?_
              refine ixs ((o2).vs) rs kk (Ow.vs_ok hI1.2.1) rfl rfl rfl Try.underlying22 ty33.sz hkk.symm hk1 ?_
              refine fad rfl Try.underlying33 rfl ty31.sz ?_
              refine ldsof 0 _ 1 hI1.2.1 rfl rfl rfl hk1 rfl rfl ty31 ?_
              refine j_alt (keepS [0, 4, 5, 6, 7] rfl) ?_
              refine jt_alt ?_ ?_
              · refine jt_fin [(11, 1), (12, 0), (13, 0), (14, 0), (15, 1), (16, 1), (17, 0)] ?_
                refine cal (Take_is bs23 m23 o71 most (l ++ (rs.take kk ++ rs.drop (kk + 1))) ho71 (taken_len hk1 hI1.2.2.2.1) (taken_nd hk1 hI1.2.2.1) (rs[kk].header) (rs[kk].n) (l2 := (l ++ (rs.take kk ++ rs.drop (kk + 1)))) (k := zarr) (f := false) (again_l hk1 hI1.2.2.1) (again_k hk1 hI1.2.2.1) (again_f hk1 hI1.2.2.1)) [1, 2, 3] [0, 4] [_, _] rfl rfl rfl (by kernel_rfl) impl_nil rfl ?_; rintro _ _ _ ⟨o86, ho86, rfl, rfl, rfl⟩; refine ⟨keepI [0, 1, 5, 6, 7] rfl, ?_⟩
                refine mv (.tuple _) rfl ?_
                refine xtr (.agg _) rfl rfl ?_
                refine xtr (.bool _) rfl rfl ?_
                refine alo [pt (zarr : Key)] _ z30 rfl fun b16 => ⟨keepI [0, 1, 6, 7, 8] rfl, ?_⟩
                refine stw 5 _ [pt zarr] rfl rfl rfl rfl ty30 ⟨keepI [0, 1, 6, 7, 8] rfl, ?_⟩
                refine asg (.bool _) rfl ?_
                refine jt ?_
                refine c_seq ?_
                refine c_seq ?_
                refine c_dr [_, _, _, _, _, _, _, _, _] [] [(0, 0), (1, 0), (2, 0), (3, 0), (4, 0), (5, 0), (6, 0), (7, 0), (8, 0), (9, 0), (10, 0), (11, 0), (12, 0), (13, 0)] follows (by kernel_rfl) calm_body (keepS [0, 1, 2, 3, 4, 5, 6, 7, 8] rfl) ?_
                refine mv (.bool _) rfl ?_
                refine not_ rfl ?_
                refine mv (.bool _) rfl ?_
                refine g_on rfl rfl rfl ?_
                refine ldp 1 0 _ rfl rfl rfl rfl ty30 ?_
                refine g_on rfl rfl rfl ?_
                refine mv (.slice _ _ _) rfl ?_
                refine g_on rfl rfl rfl ?_
                refine mv (.int _ _) rfl ?_
                refine g_on rfl rfl rfl ?_
                refine ixs ((o2).vs) rs kk (Ow.vs_ok hI1.2.1) rfl rfl rfl Try.underlying22 ty33.sz hkk.symm hk1 ?_
                refine g_on rfl rfl rfl ?_
                refine fad rfl Try.underlying33 rfl ty30.sz ?_
                refine g_on rfl rfl rfl ?_
                refine ldsof 0 _ 2 hI1.2.1 rfl rfl rfl hk1 rfl rfl ty30 ?_
                refine g_on rfl rfl rfl ?_
                refine eqA (rs[kk].message) (rs[kk].message) false rfl rfl rfl rfl eq30 rfl Try.eqGuardType30 (by simp) ?_
                refine pkf (.bool _) rfl rfl ?_
                refine mv (.bool _) rfl ?_
                refine g_on rfl rfl rfl ?_
                refine mv (.bool _) rfl ?_
                refine pkf (.bool _) rfl rfl ?_
                refine jt ?_
                refine c_false rfl ?_
                refine c_skip ?_
                refine e_then ?_
                refine c_seq ?_
                refine c_dr [_, _, _, _, _, _, _, _] [] [(0, 0), (1, 0), (2, 0), (3, 0), (4, 0), (5, 0), (6, 0), (7, 1), (8, 0)] follows (by kernel_rfl) calm_body (keepS [1, 2, 3, 4, 5, 6, 7, 8] rfl) ?_
                refine mv (.slice _ _ _) rfl ?_
                refine mv (.int _ _) rfl ?_
                refine sli ((o2).vs) 0 kk rfl Try.underlying22 ty33.sz rfl (⟨_, congrArg (Value.int .i64) hkk.symm⟩) (by have := hI1.2.1.le; have : o2.vs.cap = o2.cap := rfl; omega) (by have := hI1.2.1.le; have : o2.vs.cap = o2.cap := rfl; omega) (by have := hI1.2.1.le; have : o2.vs.cap = o2.cap := rfl; omega) ?_
                refine mv (.slice _ _ _) rfl ?_
                refine mv (.int _ _) rfl ?_
                refine addi rfl rfl rfl (by omega) ?_
                refine sli ((o2).vs) (kk + 1) rs.length rfl Try.underlying22 ty33.sz (⟨_, congrArg (Value.int .i64) (show _ = ((kk + 1 : Nat) : Int) by omega)⟩) rfl (by have := hI1.2.1.le; have : o2.vs.cap = o2.cap := rfl; omega) (by have := hI1.2.1.le; have : o2.vs.cap = o2.cap := rfl; omega) (by have := hI1.2.1.le; have : o2.vs.cap = o2.cap := rfl; omega) ?_
                refine app 0 (Ow.cut o2 rs kk) (List.take kk rs) (rs.drop (kk + 1)) (Ow.cut_ok hI1.2.1 kk (by omega)) rfl ⟨(sub0 o2 65).1, by simp; omega, (sub0 o2 65).2⟩ (by rw [← Ow.cut_seg]; rfl) rfl (gives_tail 0 (kk + 1) hI1.2.1 (by omega) rfl rfl (by simp)) Try.underlying22 Try.underlying22 (.inl ⟨_, rfl⟩) ty33.sz by33 z33 rfl (by have h9 := hI1.2.2.2.1; simp at h9 ⊢; omega) rfl fun o110_14 hk110_14 => ⟨keepI [1, 2, 3, 4, 5, 6, 7, 8] rfl, ?_⟩
                refine asg (.slice _ _ _) rfl ?_
                refine jt ?_
                refine c_seq ?_
                refine c_reg ?_
                refine mv (.pointer _) rfl ?_
                refine cal (List_ct bs23 m23 o86 most (l ++ (rs.take kk ++ rs.drop (kk + 1))) ho86 (taken_len hk1 hI1.2.2.2.1) (taken_nd hk1 hI1.2.2.1)) [] [0, 1, 2, 3, 4, 5] [_, _, _, _, _, _] rfl rfl rfl (by kernel_rfl) (impl_cons (impl_at 5 rfl) (impl_cons (impl_at 6 rfl) (impl_cons (impl_at 7 rfl) impl_nil))) rfl ?_; rintro _ _ _ ⟨o112, ho112, rfl, rfl, rfl⟩; refine ⟨trivial, ?_⟩
                refine bsl (α := Spare) ([]) Try.underlying22 ty33.sz rfl (by decide) z33 rfl fun b113 => ⟨trivial, ?_⟩
                refine mv (.slice _ _ _) rfl ?_
                refine app 7 (⟨false, b113, 0, []⟩) ([] : List Spare) l (⟨by simp, fun _ => rfl, Nat.le_refl _⟩) rfl ⟨rfl, rfl, rfl⟩ rfl rfl (gives_vs 8 hs rfl) Try.underlying22 Try.underlying22 (.inl ⟨_, rfl⟩) ty33.sz by33 z33 rfl (by have h9 := hI1.2.2.2.1; simp at h9 ⊢; omega) rfl fun o115_15 hk115_15 => ⟨trivial, ?_⟩
                refine mv (.slice _ _ _) rfl ?_
                refine app 7 o115_15 (([] : List Spare) ++ l) ((List.take kk rs) ++ (rs.drop (kk + 1))) hk115_15 rfl ⟨rfl, rfl, rfl⟩ rfl rfl (gives_ow 0 hk110_14 rfl) Try.underlying22 Try.underlying22 (.inl ⟨_, rfl⟩) ty33.sz by33 z33 rfl (by have h9 := hI1.2.2.2.1; simp at h9 ⊢; omega) rfl fun o117_16 hk117_16 => ⟨trivial, ?_⟩
                refine cal (sameSpares_ct ((o112).vs) ((o117_16).vs) (l ++ (rs.take kk ++ rs.drop (kk + 1))) ((([] : List Spare) ++ l) ++ ((List.take kk rs) ++ (rs.drop (kk + 1)))) (Ow.vs_ok ho112) (Ow.vs_ok hk117_16) (by have := taken_len hk1 hI1.2.2.2.1; omega)) [] [0, 1, 2, 3, 4, 5, 6, 7] [_, _, _, _, _, _, _, _] rfl rfl rfl (by kernel_rfl) (impl_cons (ow_impl 9 rfl) (impl_cons (ow_impl 10 rfl) impl_nil)) rfl ?_; rintro _ _ _ ⟨rfl, rfl, rfl⟩; refine ⟨trivial, ?_⟩
                refine not_ rfl ?_
                refine jt ?_
                refine c_cond rfl (fun h9 => ?_) (fun h9 => ?_)
                · replace h9 := ndt h9
                  refine c_seq ?_
                  refine c_reg ?_
                  refine asg (.bool _) rfl ?_
                  refine jt ?_
                  refine c_ret ?_
                  exact j_end (own0 := []) (ro0 := [s.seg l, t.seg more, u.seg ord]) (.inl rfl) rfl (hr1 Try.results5 (rvt (v := (.bool _)) rfl)) [] [0, 1, 2, 3, 4, 5, 6, 7] [] [_, _, _, _, _, _, _, _] [] _ rfl rfl (by kernel_rfl) rfl impl_nil (⟨by first | rfl | (exfalso; revert h9; simp), rfl, rfl⟩)
                · replace h9 := ndf h9
                  refine c_skip ?_
                  refine e_in ?_
                  refine e_then ?_
                  refine c_reg ?_
                  refine mv (.int _ _) rfl ?_
                  refine addi rfl rfl rfl (by omega) ?_
                  refine asg (.int _ _) rfl ?_
                  refine jn ?_
                  refine e_keep [2, 3, 4, 0] [1, 5, 6, 7] [_, _, _, _] rfl (by kernel_rfl) ?_
                  exact e_loop (⟨i + 1, o86, o110_14, (rs.take kk ++ rs.drop (kk + 1))⟩ : Nat × Ow × Ow × List Spare) (⟨ho86, hk110_14, taken_nd hk1 hI1.2.2.1, taken_len hk1 hI1.2.2.2.1, by simp; omega⟩) (by simp; omega) (⟨rfl, rfl, trivial⟩) rfl rfl rfl
              · refine jt_fin [(15, 1), (11, 1), (12, 0), (13, 0), (14, 0), (16, 1), (17, 0)] ?_
                refine alo [pt (zarr : Key)] _ z30 rfl fun b16 => ⟨keepI [0, 4, 6, 7, 8] rfl, ?_⟩
                refine cal (Take_is bs23 m23 o71 most (l ++ (rs.take kk ++ rs.drop (kk + 1))) ho71 (taken_len hk1 hI1.2.2.2.1) (taken_nd hk1 hI1.2.2.1) (rs[kk].header) (rs[kk].n) (l2 := (l ++ (rs.take kk ++ rs.drop (kk + 1)))) (k := zarr) (f := false) (again_l hk1 hI1.2.2.1) (again_k hk1 hI1.2.2.1) (again_f hk1 hI1.2.2.1)) [1, 2, 3] [0, 4, 5] [_, _, _] rfl rfl rfl (by kernel_rfl) impl_nil rfl ?_; rintro _ _ _ ⟨o86, ho86, rfl, rfl, rfl⟩; refine ⟨keepI [0, 1, 6, 7, 8] rfl, ?_⟩
                refine mv (.tuple _) rfl ?_
                refine xtr (.agg _) rfl rfl ?_
                refine xtr (.bool _) rfl rfl ?_
                refine stw 2 _ [pt zarr] rfl rfl rfl rfl ty30 ⟨keepI [0, 1, 6, 7, 8] rfl, ?_⟩
                refine asg (.bool _) rfl ?_
                refine jt ?_
                refine c_seq ?_
                refine c_seq ?_
                refine c_dr [_, _, _, _, _, _, _, _, _] [] [(0, 0), (1, 0), (2, 0), (3, 0), (4, 0), (5, 0), (6, 0), (7, 0), (8, 0), (9, 0), (10, 0), (11, 0), (12, 0), (13, 0)] follows (by kernel_rfl) calm_body (keepS [0, 1, 2, 3, 4, 5, 6, 7, 8] rfl) ?_
                refine mv (.bool _) rfl ?_
                refine not_ rfl ?_
                refine mv (.bool _) rfl ?_
                refine g_on rfl rfl rfl ?_
                refine ldp 1 0 _ rfl rfl rfl rfl ty30 ?_
                refine g_on rfl rfl rfl ?_
                refine mv (.slice _ _ _) rfl ?_
                refine g_on rfl rfl rfl ?_
                refine mv (.int _ _) rfl ?_
                refine g_on rfl rfl rfl ?_
                refine ixs ((o2).vs) rs kk (Ow.vs_ok hI1.2.1) rfl rfl rfl Try.underlying22 ty33.sz hkk.symm hk1 ?_
                refine g_on rfl rfl rfl ?_
                refine fad rfl Try.underlying33 rfl ty30.sz ?_
                refine g_on rfl rfl rfl ?_
                refine ldsof 0 _ 2 hI1.2.1 rfl rfl rfl hk1 rfl rfl ty30 ?_
                refine g_on rfl rfl rfl ?_
                refine eqA (rs[kk].message) (rs[kk].message) false rfl rfl rfl rfl eq30 rfl Try.eqGuardType30 (by simp) ?_
                refine pkf (.bool _) rfl rfl ?_
                refine mv (.bool _) rfl ?_
                refine g_on rfl rfl rfl ?_
                refine mv (.bool _) rfl ?_
                refine pkf (.bool _) rfl rfl ?_
                refine jt ?_
                refine c_false rfl ?_
                refine c_skip ?_
                refine e_then ?_
                refine c_seq ?_
                refine c_dr [_, _, _, _, _, _, _, _] [] [(0, 0), (1, 0), (2, 0), (3, 0), (4, 0), (5, 0), (6, 0), (7, 1), (8, 0)] follows (by kernel_rfl) calm_body (keepS [1, 2, 3, 4, 5, 6, 7, 8] rfl) ?_
                refine mv (.slice _ _ _) rfl ?_
                refine mv (.int _ _) rfl ?_
                refine sli ((o2).vs) 0 kk rfl Try.underlying22 ty33.sz rfl (⟨_, congrArg (Value.int .i64) hkk.symm⟩) (by have := hI1.2.1.le; have : o2.vs.cap = o2.cap := rfl; omega) (by have := hI1.2.1.le; have : o2.vs.cap = o2.cap := rfl; omega) (by have := hI1.2.1.le; have : o2.vs.cap = o2.cap := rfl; omega) ?_
                refine mv (.slice _ _ _) rfl ?_
                refine mv (.int _ _) rfl ?_
                refine addi rfl rfl rfl (by omega) ?_
                refine sli ((o2).vs) (kk + 1) rs.length rfl Try.underlying22 ty33.sz (⟨_, congrArg (Value.int .i64) (show _ = ((kk + 1 : Nat) : Int) by omega)⟩) rfl (by have := hI1.2.1.le; have : o2.vs.cap = o2.cap := rfl; omega) (by have := hI1.2.1.le; have : o2.vs.cap = o2.cap := rfl; omega) (by have := hI1.2.1.le; have : o2.vs.cap = o2.cap := rfl; omega) ?_
                refine app 0 (Ow.cut o2 rs kk) (List.take kk rs) (rs.drop (kk + 1)) (Ow.cut_ok hI1.2.1 kk (by omega)) rfl ⟨(sub0 o2 65).1, by simp; omega, (sub0 o2 65).2⟩ (by rw [← Ow.cut_seg]; rfl) rfl (gives_tail 0 (kk + 1) hI1.2.1 (by omega) rfl rfl (by simp)) Try.underlying22 Try.underlying22 (.inl ⟨_, rfl⟩) ty33.sz by33 z33 rfl (by have h9 := hI1.2.2.2.1; simp at h9 ⊢; omega) rfl fun o110_17 hk110_17 => ⟨keepI [1, 2, 3, 4, 5, 6, 7, 8] rfl, ?_⟩
                refine asg (.slice _ _ _) rfl ?_
                refine jt ?_
                refine c_seq ?_
                refine c_reg ?_
                refine mv (.pointer _) rfl ?_
                refine cal (List_ct bs23 m23 o86 most (l ++ (rs.take kk ++ rs.drop (kk + 1))) ho86 (taken_len hk1 hI1.2.2.2.1) (taken_nd hk1 hI1.2.2.1)) [] [0, 1, 2, 3, 4, 5] [_, _, _, _, _, _] rfl rfl rfl (by kernel_rfl) (impl_cons (impl_at 6 rfl) (impl_cons (impl_at 7 rfl) (impl_cons (impl_at 8 rfl) impl_nil))) rfl ?_; rintro _ _ _ ⟨o112, ho112, rfl, rfl, rfl⟩; refine ⟨trivial, ?_⟩
                refine bsl (α := Spare) ([]) Try.underlying22 ty33.sz rfl (by decide) z33 rfl fun b113 => ⟨trivial, ?_⟩
                refine mv (.slice _ _ _) rfl ?_
                refine app 7 (⟨false, b113, 0, []⟩) ([] : List Spare) l (⟨by simp, fun _ => rfl, Nat.le_refl _⟩) rfl ⟨rfl, rfl, rfl⟩ rfl rfl (gives_vs 8 hs rfl) Try.underlying22 Try.underlying22 (.inl ⟨_, rfl⟩) ty33.sz by33 z33 rfl (by have h9 := hI1.2.2.2.1; simp at h9 ⊢; omega) rfl fun o115_18 hk115_18 => ⟨trivial, ?_⟩
                refine mv (.slice _ _ _) rfl ?_
                refine app 7 o115_18 (([] : List Spare) ++ l) ((List.take kk rs) ++ (rs.drop (kk + 1))) hk115_18 rfl ⟨rfl, rfl, rfl⟩ rfl rfl (gives_ow 0 hk110_17 rfl) Try.underlying22 Try.underlying22 (.inl ⟨_, rfl⟩) ty33.sz by33 z33 rfl (by have h9 := hI1.2.2.2.1; simp at h9 ⊢; omega) rfl fun o117_19 hk117_19 => ⟨trivial, ?_⟩
                refine cal (sameSpares_ct ((o112).vs) ((o117_19).vs) (l ++ (rs.take kk ++ rs.drop (kk + 1))) ((([] : List Spare) ++ l) ++ ((List.take kk rs) ++ (rs.drop (kk + 1)))) (Ow.vs_ok ho112) (Ow.vs_ok hk117_19) (by have := taken_len hk1 hI1.2.2.2.1; omega)) [] [0, 1, 2, 3, 4, 5, 6, 7] [_, _, _, _, _, _, _, _] rfl rfl rfl (by kernel_rfl) (impl_cons (ow_impl 9 rfl) (impl_cons (ow_impl 10 rfl) impl_nil)) rfl ?_; rintro _ _ _ ⟨rfl, rfl, rfl⟩; refine ⟨trivial, ?_⟩
                refine not_ rfl ?_
                refine jt ?_
                refine c_cond rfl (fun h10 => ?_) (fun h10 => ?_)
                · replace h10 := ndt h10
                  refine c_seq ?_
                  refine c_reg ?_
                  refine asg (.bool _) rfl ?_
                  refine jt ?_
                  refine c_ret ?_
                  exact j_end (own0 := []) (ro0 := [s.seg l, t.seg more, u.seg ord]) (.inl rfl) rfl (hr1 Try.results5 (rvt (v := (.bool _)) rfl)) [] [0, 1, 2, 3, 4, 5, 6, 7] [] [_, _, _, _, _, _, _, _] [] _ rfl rfl (by kernel_rfl) rfl impl_nil (⟨by first | rfl | (exfalso; revert h10; simp), rfl, rfl⟩)
                · replace h10 := ndf h10
                  refine c_skip ?_
                  refine e_in ?_
                  refine e_then ?_
                  refine c_reg ?_
                  refine mv (.int _ _) rfl ?_
                  refine addi rfl rfl rfl (by omega) ?_
                  refine asg (.int _ _) rfl ?_
                  refine jn ?_
                  refine e_keep [3, 4, 5, 0] [1, 2, 6, 7] [_, _, _, _] rfl (by kernel_rfl) ?_
                  exact e_loop (⟨i + 1, o86, o110_17, (rs.take kk ++ rs.drop (kk + 1))⟩ : Nat × Ow × Ow × List Spare) (⟨ho86, hk110_17, taken_nd hk1 hI1.2.2.1, taken_len hk1 hI1.2.2.2.1, by simp; omega⟩) (by simp; omega) (⟨rfl, rfl, trivial⟩) rfl rfl rfl
            · refine jt_fin [(15, 1), (11, 1), (12, 0), (13, 0), (14, 0), (16, 1), (17, 0)] ?_
              refine alo [pt (zarr : Key)] _ z30 rfl fun b14 => ⟨keepI [3, 5, 6, 7] rfl, ?_⟩
              refine cal (Take_is bs23 m23 o3 most (l ++ rs) hI1.1 hI1.2.2.2.1 hI1.2.2.1 (rs[kk].header) (rs[kk].n) (l2 := (l ++ (rs.take kk ++ rs.drop (kk + 1)))) (k := rs[kk].message) (f := true) (taken_l hk1 hI1.2.2.1) (taken_k hk1 hI1.2.2.1) (taken_f hk1 hI1.2.2.1)) [0, 1, 2] [3, 4] [_, _] rfl rfl rfl (by kernel_rfl) impl_nil rfl ?_; rintro _ _ _ ⟨o71, ho71, rfl, rfl, rfl⟩; refine ⟨keepI [0, 5, 6, 7] rfl, ?_⟩
              refine mv (.tuple _) rfl ?_
              refine xtr (.agg _) rfl rfl ?_
              refine xtr (.bool _) rfl rfl ?_
              refine stw 1 _ [pt (rs[kk].message)] rfl rfl rfl rfl ty30 ⟨keepI [0, 5, 6, 7] rfl, ?_⟩
              refine asg (.bool _) rfl ?_
              refine jt ?_
              refine c_seq ?_
              refine c_drT [_, _, _, _, _] [] (PT.of [(0, 0), (1, 0), (2, 0), (3, 0), (4, 0), (5, 0), (6, 0), (7, 0), (8, 0), (9, 0), (10, 0)] (.alt (PT.of [(11, 1), (12, 0), (13, 0), (14, 0), (15, 1), (16, 1), (17, 0)] .leaf) (PT.of [(15, 1), (11, 1), (12, 0), (13, 0), (14, 0), (16, 1), (17, 0)] .leaf))) follows (by kernel_rfl) calm_body (keepS [0, 1, 5, 6, 7] rfl) ?_
              refine jt_of [(0, 0), (1, 0), (2, 0), (3, 0), (4, 0), (5, 0), (6, 0), (7, 0), (8, 0), (9, 0), (10, 0)] ?_
              refine mv (.pointer _) rfl ?_
              refine mv (.slice _ _ _) rfl ?_
              refine mv (.int _ _) rfl ?_
              refine ixs ((o2).vs) rs kk (Ow.vs_ok hI1.2.1) rfl rfl rfl Try.underlying22 ty33.sz hkk.symm hk1 ?_
              refine fad rfl Try.underlying33 rfl ty30.sz ?_
              refine ldsof 0 _ 0 hI1.2.1 rfl rfl rfl hk1 rfl rfl ty30 ?_
              refine mv (.slice _ _ _) rfl ?_
              refine mv (.int _ _) rfl ?_
              refine ixs ((o2).vs) rs kk (Ow.vs_ok hI1.2.1) rfl rfl rfl Try.underlying22 ty33.sz hkk.symm hk1 ?_
              refine fad rfl Try.underlying33 rfl ty31.sz ?_
              refine ldsof 0 _ 1 hI1.2.1 rfl rfl rfl hk1 rfl rfl ty31 ?_
              refine j_alt (keepS [0, 1, 5, 6, 7] rfl) ?_
              refine jt_alt ?_ ?_
              · refine jt_fin [(11, 1), (12, 0), (13, 0), (14, 0), (15, 1), (16, 1), (17, 0)] ?_
                refine cal (Take_is bs23 m23 o71 most (l ++ (rs.take kk ++ rs.drop (kk + 1))) ho71 (taken_len hk1 hI1.2.2.2.1) (taken_nd hk1 hI1.2.2.1) (rs[kk].header) (rs[kk].n) (l2 := (l ++ (rs.take kk ++ rs.drop (kk + 1)))) (k := zarr) (f := false) (again_l hk1 hI1.2.2.1) (again_k hk1 hI1.2.2.1) (again_f hk1 hI1.2.2.1)) [2, 3, 4] [0, 1] [_, _] rfl rfl rfl (by kernel_rfl) impl_nil rfl ?_; rintro _ _ _ ⟨o86, ho86, rfl, rfl, rfl⟩; refine ⟨keepI [0, 1, 5, 6, 7] rfl, ?_⟩
                refine mv (.tuple _) rfl ?_
                refine xtr (.agg _) rfl rfl ?_
                refine xtr (.bool _) rfl rfl ?_
                refine alo [pt (zarr : Key)] _ z30 rfl fun b16 => ⟨keepI [0, 1, 6, 7, 8] rfl, ?_⟩
                refine stw 5 _ [pt zarr] rfl rfl rfl rfl ty30 ⟨keepI [0, 1, 6, 7, 8] rfl, ?_⟩
                refine asg (.bool _) rfl ?_
                refine jt ?_
                refine c_seq ?_
                refine c_seq ?_
                refine c_dr [_, _, _, _, _, _, _, _, _] [] [(0, 0), (1, 0), (2, 0), (3, 0), (4, 0), (5, 0), (6, 0), (7, 0), (8, 0), (9, 0), (10, 0), (11, 0), (12, 0), (13, 0)] follows (by kernel_rfl) calm_body (keepS [0, 1, 2, 3, 4, 5, 6, 7, 8] rfl) ?_
                refine mv (.bool _) rfl ?_
                refine not_ rfl ?_
                refine mv (.bool _) rfl ?_
                refine g_on rfl rfl rfl ?_
                refine ldp 1 0 _ rfl rfl rfl rfl ty30 ?_
                refine g_on rfl rfl rfl ?_
                refine mv (.slice _ _ _) rfl ?_
                refine g_on rfl rfl rfl ?_
                refine mv (.int _ _) rfl ?_
                refine g_on rfl rfl rfl ?_
                refine ixs ((o2).vs) rs kk (Ow.vs_ok hI1.2.1) rfl rfl rfl Try.underlying22 ty33.sz hkk.symm hk1 ?_
                refine g_on rfl rfl rfl ?_
                refine fad rfl Try.underlying33 rfl ty30.sz ?_
                refine g_on rfl rfl rfl ?_
                refine ldsof 0 _ 2 hI1.2.1 rfl rfl rfl hk1 rfl rfl ty30 ?_
                refine g_on rfl rfl rfl ?_
                refine eqA (rs[kk].message) (rs[kk].message) false rfl rfl rfl rfl eq30 rfl Try.eqGuardType30 (by simp) ?_
                refine pkf (.bool _) rfl rfl ?_
                refine mv (.bool _) rfl ?_
                refine g_on rfl rfl rfl ?_
                refine mv (.bool _) rfl ?_
                refine pkf (.bool _) rfl rfl ?_
                refine jt ?_
                refine c_false rfl ?_
                refine c_skip ?_
                refine e_then ?_
                refine c_seq ?_
                refine c_dr [_, _, _, _, _, _, _, _] [] [(0, 0), (1, 0), (2, 0), (3, 0), (4, 0), (5, 0), (6, 0), (7, 1), (8, 0)] follows (by kernel_rfl) calm_body (keepS [1, 2, 3, 4, 5, 6, 7, 8] rfl) ?_
                refine mv (.slice _ _ _) rfl ?_
                refine mv (.int _ _) rfl ?_
                refine sli ((o2).vs) 0 kk rfl Try.underlying22 ty33.sz rfl (⟨_, congrArg (Value.int .i64) hkk.symm⟩) (by have := hI1.2.1.le; have : o2.vs.cap = o2.cap := rfl; omega) (by have := hI1.2.1.le; have : o2.vs.cap = o2.cap := rfl; omega) (by have := hI1.2.1.le; have : o2.vs.cap = o2.cap := rfl; omega) ?_
                refine mv (.slice _ _ _) rfl ?_
                refine mv (.int _ _) rfl ?_
                refine addi rfl rfl rfl (by omega) ?_
                refine sli ((o2).vs) (kk + 1) rs.length rfl Try.underlying22 ty33.sz (⟨_, congrArg (Value.int .i64) (show _ = ((kk + 1 : Nat) : Int) by omega)⟩) rfl (by have := hI1.2.1.le; have : o2.vs.cap = o2.cap := rfl; omega) (by have := hI1.2.1.le; have : o2.vs.cap = o2.cap := rfl; omega) (by have := hI1.2.1.le; have : o2.vs.cap = o2.cap := rfl; omega) ?_
                refine app 0 (Ow.cut o2 rs kk) (List.take kk rs) (rs.drop (kk + 1)) (Ow.cut_ok hI1.2.1 kk (by omega)) rfl ⟨(sub0 o2 65).1, by simp; omega, (sub0 o2 65).2⟩ (by rw [← Ow.cut_seg]; rfl) rfl (gives_tail 0 (kk + 1) hI1.2.1 (by omega) rfl rfl (by simp)) Try.underlying22 Try.underlying22 (.inl ⟨_, rfl⟩) ty33.sz by33 z33 rfl (by have h9 := hI1.2.2.2.1; simp at h9 ⊢; omega) rfl fun o110_20 hk110_20 => ⟨keepI [1, 2, 3, 4, 5, 6, 7, 8] rfl, ?_⟩
                refine asg (.slice _ _ _) rfl ?_
                refine jt ?_
                refine c_seq ?_
                refine c_reg ?_
                refine mv (.pointer _) rfl ?_
                refine cal (List_ct bs23 m23 o86 most (l ++ (rs.take kk ++ rs.drop (kk + 1))) ho86 (taken_len hk1 hI1.2.2.2.1) (taken_nd hk1 hI1.2.2.1)) [] [0, 1, 2, 3, 4, 5] [_, _, _, _, _, _] rfl rfl rfl (by kernel_rfl) (impl_cons (impl_at 5 rfl) (impl_cons (impl_at 6 rfl) (impl_cons (impl_at 7 rfl) impl_nil))) rfl ?_; rintro _ _ _ ⟨o112, ho112, rfl, rfl, rfl⟩; refine ⟨trivial, ?_⟩
                refine bsl (α := Spare) ([]) Try.underlying22 ty33.sz rfl (by decide) z33 rfl fun b113 => ⟨trivial, ?_⟩
                refine mv (.slice _ _ _) rfl ?_
                refine app 7 (⟨false, b113, 0, []⟩) ([] : List Spare) l (⟨by simp, fun _ => rfl, Nat.le_refl _⟩) rfl ⟨rfl, rfl, rfl⟩ rfl rfl (gives_vs 8 hs rfl) Try.underlying22 Try.underlying22 (.inl ⟨_, rfl⟩) ty33.sz by33 z33 rfl (by have h9 := hI1.2.2.2.1; simp at h9 ⊢; omega) rfl fun o115_21 hk115_21 => ⟨trivial, ?_⟩
                refine mv (.slice _ _ _) rfl ?_
                refine app 7 o115_21 (([] : List Spare) ++ l) ((List.take kk rs) ++ (rs.drop (kk + 1))) hk115_21 rfl ⟨rfl, rfl, rfl⟩ rfl rfl (gives_ow 0 hk110_20 rfl) Try.underlying22 Try.underlying22 (.inl ⟨_, rfl⟩) ty33.sz by33 z33 rfl (by have h9 := hI1.2.2.2.1; simp at h9 ⊢; omega) rfl fun o117_22 hk117_22 => ⟨trivial, ?_⟩
                refine cal (sameSpares_ct ((o112).vs) ((o117_22).vs) (l ++ (rs.take kk ++ rs.drop (kk + 1))) ((([] : List Spare) ++ l) ++ ((List.take kk rs) ++ (rs.drop (kk + 1)))) (Ow.vs_ok ho112) (Ow.vs_ok hk117_22) (by have := taken_len hk1 hI1.2.2.2.1; omega)) [] [0, 1, 2, 3, 4, 5, 6, 7] [_, _, _, _, _, _, _, _] rfl rfl rfl (by kernel_rfl) (impl_cons (ow_impl 9 rfl) (impl_cons (ow_impl 10 rfl) impl_nil)) rfl ?_; rintro _ _ _ ⟨rfl, rfl, rfl⟩; refine ⟨trivial, ?_⟩
                refine not_ rfl ?_
                refine jt ?_
                refine c_cond rfl (fun h11 => ?_) (fun h11 => ?_)
                · replace h11 := ndt h11
                  refine c_seq ?_
                  refine c_reg ?_
                  refine asg (.bool _) rfl ?_
                  refine jt ?_
                  refine c_ret ?_
                  exact j_end (own0 := []) (ro0 := [s.seg l, t.seg more, u.seg ord]) (.inl rfl) rfl (hr1 Try.results5 (rvt (v := (.bool _)) rfl)) [] [0, 1, 2, 3, 4, 5, 6, 7] [] [_, _, _, _, _, _, _, _] [] _ rfl rfl (by kernel_rfl) rfl impl_nil (⟨by first | rfl | (exfalso; revert h11; simp), rfl, rfl⟩)
                · replace h11 := ndf h11
                  refine c_skip ?_
                  refine e_in ?_
                  refine e_then ?_
                  refine c_reg ?_
                  refine mv (.int _ _) rfl ?_
                  refine addi rfl rfl rfl (by omega) ?_
                  refine asg (.int _ _) rfl ?_
                  refine jn ?_
                  refine e_keep [2, 3, 4, 0] [1, 5, 6, 7] [_, _, _, _] rfl (by kernel_rfl) ?_
                  exact e_loop (⟨i + 1, o86, o110_20, (rs.take kk ++ rs.drop (kk + 1))⟩ : Nat × Ow × Ow × List Spare) (⟨ho86, hk110_20, taken_nd hk1 hI1.2.2.1, taken_len hk1 hI1.2.2.2.1, by simp; omega⟩) (by simp; omega) (⟨rfl, rfl, trivial⟩) rfl rfl rfl
              · refine jt_fin [(15, 1), (11, 1), (12, 0), (13, 0), (14, 0), (16, 1), (17, 0)] ?_
                refine alo [pt (zarr : Key)] _ z30 rfl fun b16 => ⟨keepI [0, 1, 6, 7, 8] rfl, ?_⟩
                refine cal (Take_is bs23 m23 o71 most (l ++ (rs.take kk ++ rs.drop (kk + 1))) ho71 (taken_len hk1 hI1.2.2.2.1) (taken_nd hk1 hI1.2.2.1) (rs[kk].header) (rs[kk].n) (l2 := (l ++ (rs.take kk ++ rs.drop (kk + 1)))) (k := zarr) (f := false) (again_l hk1 hI1.2.2.1) (again_k hk1 hI1.2.2.1) (again_f hk1 hI1.2.2.1)) [2, 3, 4] [0, 1, 5] [_, _, _] rfl rfl rfl (by kernel_rfl) impl_nil rfl ?_; rintro _ _ _ ⟨o86, ho86, rfl, rfl, rfl⟩; refine ⟨keepI [0, 1, 6, 7, 8] rfl, ?_⟩
                refine mv (.tuple _) rfl ?_
                refine xtr (.agg _) rfl rfl ?_
                refine xtr (.bool _) rfl rfl ?_
                refine stw 2 _ [pt zarr] rfl rfl rfl rfl ty30 ⟨keepI [0, 1, 6, 7, 8] rfl, ?_⟩
                refine asg (.bool _) rfl ?_
                refine jt ?_
                refine c_seq ?_
                refine c_seq ?_
                refine c_dr [_, _, _, _, _, _, _, _, _] [] [(0, 0), (1, 0), (2, 0), (3, 0), (4, 0), (5, 0), (6, 0), (7, 0), (8, 0), (9, 0), (10, 0), (11, 0), (12, 0), (13, 0)] follows (by kernel_rfl) calm_body (keepS [0, 1, 2, 3, 4, 5, 6, 7, 8] rfl) ?_
                refine mv (.bool _) rfl ?_
                refine not_ rfl ?_
                refine mv (.bool _) rfl ?_
                refine g_on rfl rfl rfl ?_
                refine ldp 1 0 _ rfl rfl rfl rfl ty30 ?_
                refine g_on rfl rfl rfl ?_
                refine mv (.slice _ _ _) rfl ?_
                refine g_on rfl rfl rfl ?_
                refine mv (.int _ _) rfl ?_
                refine g_on rfl rfl rfl ?_
                refine ixs ((o2).vs) rs kk (Ow.vs_ok hI1.2.1) rfl rfl rfl Try.underlying22 ty33.sz hkk.symm hk1 ?_
                refine g_on rfl rfl rfl ?_
                refine fad rfl Try.underlying33 rfl ty30.sz ?_
                refine g_on rfl rfl rfl ?_
                refine ldsof 0 _ 2 hI1.2.1 rfl rfl rfl hk1 rfl rfl ty30 ?_
                refine g_on rfl rfl rfl ?_
                refine eqA (rs[kk].message) (rs[kk].message) false rfl rfl rfl rfl eq30 rfl Try.eqGuardType30 (by simp) ?_
                refine pkf (.bool _) rfl rfl ?_
                refine mv (.bool _) rfl ?_
                refine g_on rfl rfl rfl ?_
                refine mv (.bool _) rfl ?_
                refine pkf (.bool _) rfl rfl ?_
                refine jt ?_
                refine c_false rfl ?_
                refine c_skip ?_
                refine e_then ?_
                refine c_seq ?_
                refine c_dr [_, _, _, _, _, _, _, _] [] [(0, 0), (1, 0), (2, 0), (3, 0), (4, 0), (5, 0), (6, 0), (7, 1), (8, 0)] follows (by kernel_rfl) calm_body (keepS [1, 2, 3, 4, 5, 6, 7, 8] rfl) ?_
                refine mv (.slice _ _ _) rfl ?_
                refine mv (.int _ _) rfl ?_
                refine sli ((o2).vs) 0 kk rfl Try.underlying22 ty33.sz rfl (⟨_, congrArg (Value.int .i64) hkk.symm⟩) (by have := hI1.2.1.le; have : o2.vs.cap = o2.cap := rfl; omega) (by have := hI1.2.1.le; have : o2.vs.cap = o2.cap := rfl; omega) (by have := hI1.2.1.le; have : o2.vs.cap = o2.cap := rfl; omega) ?_
                refine mv (.slice _ _ _) rfl ?_
                refine mv (.int _ _) rfl ?_
                refine addi rfl rfl rfl (by omega) ?_
                refine sli ((o2).vs) (kk + 1) rs.length rfl Try.underlying22 ty33.sz (⟨_, congrArg (Value.int .i64) (show _ = ((kk + 1 : Nat) : Int) by omega)⟩) rfl (by have := hI1.2.1.le; have : o2.vs.cap = o2.cap := rfl; omega) (by have := hI1.2.1.le; have : o2.vs.cap = o2.cap := rfl; omega) (by have := hI1.2.1.le; have : o2.vs.cap = o2.cap := rfl; omega) ?_
                refine app 0 (Ow.cut o2 rs kk) (List.take kk rs) (rs.drop (kk + 1)) (Ow.cut_ok hI1.2.1 kk (by omega)) rfl ⟨(sub0 o2 65).1, by simp; omega, (sub0 o2 65).2⟩ (by rw [← Ow.cut_seg]; rfl) rfl (gives_tail 0 (kk + 1) hI1.2.1 (by omega) rfl rfl (by simp)) Try.underlying22 Try.underlying22 (.inl ⟨_, rfl⟩) ty33.sz by33 z33 rfl (by have h9 := hI1.2.2.2.1; simp at h9 ⊢; omega) rfl fun o110_23 hk110_23 => ⟨keepI [1, 2, 3, 4, 5, 6, 7, 8] rfl, ?_⟩
                refine asg (.slice _ _ _) rfl ?_
                refine jt ?_
                refine c_seq ?_
                refine c_reg ?_
                refine mv (.pointer _) rfl ?_
                refine cal (List_ct bs23 m23 o86 most (l ++ (rs.take kk ++ rs.drop (kk + 1))) ho86 (taken_len hk1 hI1.2.2.2.1) (taken_nd hk1 hI1.2.2.1)) [] [0, 1, 2, 3, 4, 5] [_, _, _, _, _, _] rfl rfl rfl (by kernel_rfl) (impl_cons (impl_at 6 rfl) (impl_cons (impl_at 7 rfl) (impl_cons (impl_at 8 rfl) impl_nil))) rfl ?_; rintro _ _ _ ⟨o112, ho112, rfl, rfl, rfl⟩; refine ⟨trivial, ?_⟩
                refine bsl (α := Spare) ([]) Try.underlying22 ty33.sz rfl (by decide) z33 rfl fun b113 => ⟨trivial, ?_⟩
                refine mv (.slice _ _ _) rfl ?_
                refine app 7 (⟨false, b113, 0, []⟩) ([] : List Spare) l (⟨by simp, fun _ => rfl, Nat.le_refl _⟩) rfl ⟨rfl, rfl, rfl⟩ rfl rfl (gives_vs 8 hs rfl) Try.underlying22 Try.underlying22 (.inl ⟨_, rfl⟩) ty33.sz by33 z33 rfl (by have h9 := hI1.2.2.2.1; simp at h9 ⊢; omega) rfl fun o115_24 hk115_24 => ⟨trivial, ?_⟩
                refine mv (.slice _ _ _) rfl ?_
                refine app 7 o115_24 (([] : List Spare) ++ l) ((List.take kk rs) ++ (rs.drop (kk + 1))) hk115_24 rfl ⟨rfl, rfl, rfl⟩ rfl rfl (gives_ow 0 hk110_23 rfl) Try.underlying22 Try.underlying22 (.inl ⟨_, rfl⟩) ty33.sz by33 z33 rfl (by have h9 := hI1.2.2.2.1; simp at h9 ⊢; omega) rfl fun o117_25 hk117_25 => ⟨trivial, ?_⟩
                refine cal (sameSpares_ct ((o112).vs) ((o117_25).vs) (l ++ (rs.take kk ++ rs.drop (kk + 1))) ((([] : List Spare) ++ l) ++ ((List.take kk rs) ++ (rs.drop (kk + 1)))) (Ow.vs_ok ho112) (Ow.vs_ok hk117_25) (by have := taken_len hk1 hI1.2.2.2.1; omega)) [] [0, 1, 2, 3, 4, 5, 6, 7] [_, _, _, _, _, _, _, _] rfl rfl rfl (by kernel_rfl) (impl_cons (ow_impl 9 rfl) (impl_cons (ow_impl 10 rfl) impl_nil)) rfl ?_; rintro _ _ _ ⟨rfl, rfl, rfl⟩; refine ⟨trivial, ?_⟩
                refine not_ rfl ?_
                refine jt ?_
                refine c_cond rfl (fun h12 => ?_) (fun h12 => ?_)
                · replace h12 := ndt h12
                  refine c_seq ?_
                  refine c_reg ?_
                  refine asg (.bool _) rfl ?_
                  refine jt ?_
                  refine c_ret ?_
                  exact j_end (own0 := []) (ro0 := [s.seg l, t.seg more, u.seg ord]) (.inl rfl) rfl (hr1 Try.results5 (rvt (v := (.bool _)) rfl)) [] [0, 1, 2, 3, 4, 5, 6, 7] [] [_, _, _, _, _, _, _, _] [] _ rfl rfl (by kernel_rfl) rfl impl_nil (⟨by first | rfl | (exfalso; revert h12; simp), rfl, rfl⟩)
                · replace h12 := ndf h12
                  refine c_skip ?_
                  refine e_in ?_
                  refine e_then ?_
                  refine c_reg ?_
                  refine mv (.int _ _) rfl ?_
                  refine addi rfl rfl rfl (by omega) ?_
                  refine asg (.int _ _) rfl ?_
                  refine jn ?_
                  refine e_keep [3, 4, 5, 0] [1, 2, 6, 7] [_, _, _, _] rfl (by kernel_rfl) ?_
                  exact e_loop (⟨i + 1, o86, o110_23, (rs.take kk ++ rs.drop (kk + 1))⟩ : Nat × Ow × Ow × List Spare) (⟨ho86, hk110_23, taken_nd hk1 hI1.2.2.1, taken_len hk1 hI1.2.2.2.1, by simp; omega⟩) (by simp; omega) (⟨rfl, rfl, trivial⟩) rfl rfl rfl
        · replace h3 := of_decide_eq_false h3
          refine c_skip ?_
          refine e_then ?_
          refine c_seq ?_
          refine c_seq ?_
          refine c_reg ?_
          refine mv (.int _ _) rfl ?_
          refine cmp false rfl rfl rfl ?_
          refine jt ?_
          refine c_false rfl ?_
          refine c_skip ?_
          refine e_then ?_
          refine c_seq ?_
          refine c_drT [_, _, _, _] [] (PT.of [(0, 0), (1, 0), (2, 0), (3, 0), (4, 0), (5, 0), (6, 0), (7, 0), (8, 0), (9, 0), (10, 0)] (.alt (PT.of [(11, 1), (12, 0), (13, 0), (14, 0), (15, 1), (16, 1), (17, 0)] .leaf) (PT.of [(15, 1), (11, 1), (12, 0), (13, 0), (14, 0), (16, 1), (17, 0)] .leaf))) follows (by kernel_rfl) calm_body (keepS [3, 4, 5, 6] rfl) ?_
          refine jt_of [(0, 0), (1, 0), (2, 0), (3, 0), (4, 0), (5, 0), (6, 0), (7, 0), (8, 0), (9, 0), (10, 0)] ?_
          refine mv (.pointer _) rfl ?_
          obtain ⟨kk, hkk, hk1⟩ : ∃ kk : Nat, (kk : Int) = (0 : Int) ∧ kk < rs.length := ⟨((0 : Int)).toNat, by omega, by omega⟩
          refine mv (.slice _ _ _) rfl ?_
          refine mv (.int _ _) rfl ?_
          refine ixs ((o2).vs) rs kk (Ow.vs_ok hI1.2.1) rfl rfl rfl Try.underlying22 ty33.sz hkk.symm hk1 ?_
          refine fad rfl Try.underlying33 rfl ty30.sz ?_
          refine ldsof 0 _ 0 hI1.2.1 rfl rfl rfl hk1 rfl rfl ty30 ?_
          refine mv (.slice _ _ _) rfl ?_
          refine mv (.int _ _) rfl ?_
          refine ixs ((o2).vs) rs kk (Ow.vs_ok hI1.2.1) rfl rfl rfl Try.underlying22 ty33.sz hkk.symm hk1 ?_
          refine fad rfl Try.underlying33 rfl ty31.sz ?_
          refine ldsof 0 _ 1 hI1.2.1 rfl rfl rfl hk1 rfl rfl ty31 ?_
          refine j_alt (keepS [3, 4, 5, 6] rfl) ?_
          refine jt_alt ?_ ?_
          · refine jt_fin [(11, 1), (12, 0), (13, 0), (14, 0), (15, 1), (16, 1), (17, 0)] ?_
            refine cal (Take_is bs23 m23 o3 most (l ++ rs) hI1.1 hI1.2.2.2.1 hI1.2.2.1 (rs[kk].header) (rs[kk].n) (l2 := (l ++ (rs.take kk ++ rs.drop (kk + 1)))) (k := rs[kk].message) (f := true) (taken_l hk1 hI1.2.2.1) (taken_k hk1 hI1.2.2.1) (taken_f hk1 hI1.2.2.1)) [0, 1, 2] [3] [_] rfl rfl rfl (by kernel_rfl) impl_nil rfl ?_; rintro _ _ _ ⟨o71, ho71, rfl, rfl, rfl⟩; refine ⟨keepI [0, 4, 5, 6] rfl, ?_⟩
            refine mv (.tuple _) rfl ?_
            refine xtr (.agg _) rfl rfl ?_
            refine xtr (.bool _) rfl rfl ?_
            refine alo [pt (zarr : Key)] _ z30 rfl fun b14 => ⟨keepI [0, 5, 6, 7] rfl, ?_⟩
            refine stw 4 _ [pt (rs[kk].message)] rfl rfl rfl rfl ty30 ⟨keepI [0, 5, 6, 7] rfl, ?_⟩
            refine asg (.bool _) rfl ?_
            refine jt ?_
            refine c_seq ?_
            refine c_drT [_, _, _, _, _] [] (PT.of [(0, 0), (1, 0), (2, 0), (3, 0), (4, 0), (5, 0), (6, 0), (7, 0), (8, 0), (9, 0), (10, 0)] (.alt (PT.of [(11, 1), (12, 0), (13, 0), (14, 0), (15, 1), (16, 1), (17, 0)] .leaf) (PT.of [(15, 1), (11, 1), (12, 0), (13, 0), (14, 0), (16, 1), (17, 0)] .leaf))) follows (by kernel_rfl) calm_body (keepS [0, 4, 5, 6, 7] rfl) ?_
            refine jt_of [(0, 0), (1, 0), (2, 0), (3, 0), (4, 0), (5, 0), (6, 0), (7, 0), (8, 0), (9, 0), (10, 0)] ?_
            refine mv (.pointer _) rfl ?_
            refine mv (.slice _ _ _) rfl ?_
            refine mv (.int _ _) rfl ?_
            refine ixs ((o2).vs) rs kk (Ow.vs_ok hI1.2.1) rfl rfl rfl Try.underlying22 ty33.sz hkk.symm hk1 ?_
            refine fad rfl Try.underlying33 rfl ty30.sz ?_
            refine ldsof 0 _ 0 hI1.2.1 rfl rfl rfl hk1 rfl rfl ty30 ?_
            refine mv (.slice _ _ _) rfl ?_
            refine mv (.int _ _) rfl ?_
            refine ixs ((o2).vs) rs kk (Ow.vs_ok hI1.2.1) rfl rfl rfl Try.underlying22 ty33.sz hkk.symm hk1 ?_
            refine fad rfl Try.underlying33 rfl ty31.sz ?_
            refine ldsof 0 _ 1 hI1.2.1 rfl rfl rfl hk1 rfl rfl ty31 ?_
            refine j_alt (keepS [0, 4, 5, 6, 7] rfl) ?_
            refine jt_alt ?_ ?_
            · refine jt_fin [(11, 1), (12, 0), (13, 0), (14, 0), (15, 1), (16, 1), (17, 0)] ?_
              refine cal (Take_is bs23 m23 o71 most (l ++ (rs.take kk ++ rs.drop (kk + 1))) ho71 (taken_len hk1 hI1.2.2.2.1) (taken_nd hk1 hI1.2.2.1) (rs[kk].header) (rs[kk].n) (l2 := (l ++ (rs.take kk ++ rs.drop (kk + 1)))) (k := zarr) (f := false) (again_l hk1 hI1.2.2.1) (again_k hk1 hI1.2.2.1) (again_f hk1 hI1.2.2.1)) [1, 2, 3] [0, 4] [_, _] rfl rfl rfl (by kernel_rfl) impl_nil rfl ?_; rintro _ _ _ ⟨o86, ho86, rfl, rfl, rfl⟩; refine ⟨keepI [0, 1, 5, 6, 7] rfl, ?_⟩
              refine mv (.tuple _) rfl ?_
              refine xtr (.agg _) rfl rfl ?_
              refine xtr (.bool _) rfl rfl ?_
              refine alo [pt (zarr : Key)] _ z30 rfl fun b16 => ⟨keepI [0, 1, 6, 7, 8] rfl, ?_⟩
              refine stw 5 _ [pt zarr] rfl rfl rfl rfl ty30 ⟨keepI [0, 1, 6, 7, 8] rfl, ?_⟩
              refine asg (.bool _) rfl ?_
              refine jt ?_
              refine c_seq ?_
              refine c_seq ?_
              refine c_dr [_, _, _, _, _, _, _, _, _] [] [(0, 0), (1, 0), (2, 0), (3, 0), (4, 0), (5, 0), (6, 0), (7, 0), (8, 0), (9, 0), (10, 0), (11, 0), (12, 0), (13, 0)] follows (by kernel_rfl) calm_body (keepS [0, 1, 2, 3, 4, 5, 6, 7, 8] rfl) ?_
              refine mv (.bool _) rfl ?_
              refine not_ rfl ?_
              refine mv (.bool _) rfl ?_
              refine g_on rfl rfl rfl ?_
              refine ldp 1 0 _ rfl rfl rfl rfl ty30 ?_
              refine g_on rfl rfl rfl ?_
              refine mv (.slice _ _ _) rfl ?_
              refine g_on rfl rfl rfl ?_
              refine mv (.int _ _) rfl ?_
              refine g_on rfl rfl rfl ?_
              refine ixs ((o2).vs) rs kk (Ow.vs_ok hI1.2.1) rfl rfl rfl Try.underlying22 ty33.sz hkk.symm hk1 ?_
              refine g_on rfl rfl rfl ?_
              refine fad rfl Try.underlying33 rfl ty30.sz ?_
              refine g_on rfl rfl rfl ?_
              refine ldsof 0 _ 2 hI1.2.1 rfl rfl rfl hk1 rfl rfl ty30 ?_
              refine g_on rfl rfl rfl ?_
              refine eqA (rs[kk].message) (rs[kk].message) false rfl rfl rfl rfl eq30 rfl Try.eqGuardType30 (by simp) ?_
              refine pkf (.bool _) rfl rfl ?_
              refine mv (.bool _) rfl ?_
              refine g_on rfl rfl rfl ?_
              refine mv (.bool _) rfl ?_
              refine pkf (.bool _) rfl rfl ?_
              refine jt ?_
              refine c_false rfl ?_
              refine c_skip ?_
              refine e_then ?_
              refine c_seq ?_
              refine c_dr [_, _, _, _, _, _, _, _] [] [(0, 0), (1, 0), (2, 0), (3, 0), (4, 0), (5, 0), (6, 0), (7, 1), (8, 0)] follows (by kernel_rfl) calm_body (keepS [1, 2, 3, 4, 5, 6, 7, 8] rfl) ?_
              refine mv (.slice _ _ _) rfl ?_
              refine mv (.int _ _) rfl ?_
              refine sli ((o2).vs) 0 kk rfl Try.underlying22 ty33.sz rfl (⟨_, congrArg (Value.int .i64) hkk.symm⟩) (by have := hI1.2.1.le; have : o2.vs.cap = o2.cap := rfl; omega) (by have := hI1.2.1.le; have : o2.vs.cap = o2.cap := rfl; omega) (by have := hI1.2.1.le; have : o2.vs.cap = o2.cap := rfl; omega) ?_
              refine mv (.slice _ _ _) rfl ?_
              refine mv (.int _ _) rfl ?_
              refine addi rfl rfl rfl (by omega) ?_
              refine sli ((o2).vs) (kk + 1) rs.length rfl Try.underlying22 ty33.sz (⟨_, congrArg (Value.int .i64) (show _ = ((kk + 1 : Nat) : Int) by omega)⟩) rfl (by have := hI1.2.1.le; have : o2.vs.cap = o2.cap := rfl; omega) (by have := hI1.2.1.le; have : o2.vs.cap = o2.cap := rfl; omega) (by have := hI1.2.1.le; have : o2.vs.cap = o2.cap := rfl; omega) ?_
              refine app 0 (Ow.cut o2 rs kk) (List.take kk rs) (rs.drop (kk + 1)) (Ow.cut_ok hI1.2.1 kk (by omega)) rfl ⟨(sub0 o2 65).1, by simp; omega, (sub0 o2 65).2⟩ (by rw [← Ow.cut_seg]; rfl) rfl (gives_tail 0 (kk + 1) hI1.2.1 (by omega) rfl rfl (by simp)) Try.underlying22 Try.underlying22 (.inl ⟨_, rfl⟩) ty33.sz by33 z33 rfl (by have h9 := hI1.2.2.2.1; simp at h9 ⊢; omega) rfl fun o110_26 hk110_26 => ⟨keepI [1, 2, 3, 4, 5, 6, 7, 8] rfl, ?_⟩
              refine asg (.slice _ _ _) rfl ?_
              refine jt ?_
              refine c_seq ?_
              refine c_reg ?_
              refine mv (.pointer _) rfl ?_
              refine cal (List_ct bs23 m23 o86 most (l ++ (rs.take kk ++ rs.drop (kk + 1))) ho86 (taken_len hk1 hI1.2.2.2.1) (taken_nd hk1 hI1.2.2.1)) [] [0, 1, 2, 3, 4, 5] [_, _, _, _, _, _] rfl rfl rfl (by kernel_rfl) (impl_cons (impl_at 5 rfl) (impl_cons (impl_at 6 rfl) (impl_cons (impl_at 7 rfl) impl_nil))) rfl ?_; rintro _ _ _ ⟨o112, ho112, rfl, rfl, rfl⟩; refine ⟨trivial, ?_⟩
              refine bsl (α := Spare) ([]) Try.underlying22 ty33.sz rfl (by decide) z33 rfl fun b113 => ⟨trivial, ?_⟩
              refine mv (.slice _ _ _) rfl ?_
              refine app 7 (⟨false, b113, 0, []⟩) ([] : List Spare) l (⟨by simp, fun _ => rfl, Nat.le_refl _⟩) rfl ⟨rfl, rfl, rfl⟩ rfl rfl (gives_vs 8 hs rfl) Try.underlying22 Try.underlying22 (.inl ⟨_, rfl⟩) ty33.sz by33 z33 rfl (by have h9 := hI1.2.2.2.1; simp at h9 ⊢; omega) rfl fun o115_27 hk115_27 => ⟨trivial, ?_⟩
              refine mv (.slice _ _ _) rfl ?_
              refine app 7 o115_27 (([] : List Spare) ++ l) ((List.take kk rs) ++ (rs.drop (kk + 1))) hk115_27 rfl ⟨rfl, rfl, rfl⟩ rfl rfl (gives_ow 0 hk110_26 rfl) Try.underlying22 Try.underlying22 (.inl ⟨_, rfl⟩) ty33.sz by33 z33 rfl (by have h9 := hI1.2.2.2.1; simp at h9 ⊢; omega) rfl fun o117_28 hk117_28 => ⟨trivial, ?_⟩
              refine cal (sameSpares_ct ((o112).vs) ((o117_28).vs) (l ++ (rs.take kk ++ rs.drop (kk + 1))) ((([] : List Spare) ++ l) ++ ((List.take kk rs) ++ (rs.drop (kk + 1)))) (Ow.vs_ok ho112) (Ow.vs_ok hk117_28) (by have := taken_len hk1 hI1.2.2.2.1; omega)) [] [0, 1, 2, 3, 4, 5, 6, 7] [_, _, _, _, _, _, _, _] rfl rfl rfl (by kernel_rfl) (impl_cons (ow_impl 9 rfl) (impl_cons (ow_impl 10 rfl) impl_nil)) rfl ?_; rintro _ _ _ ⟨rfl, rfl, rfl⟩; refine ⟨trivial, ?_⟩
              refine not_ rfl ?_
              refine jt ?_
              refine c_cond rfl (fun h13 => ?_) (fun h13 => ?_)
              · replace h13 := ndt h13
                refine c_seq ?_
                refine c_reg ?_
                refine asg (.bool _) rfl ?_
                refine jt ?_
                refine c_ret ?_
                exact j_end (own0 := []) (ro0 := [s.seg l, t.seg more, u.seg ord]) (.inl rfl) rfl (hr1 Try.results5 (rvt (v := (.bool _)) rfl)) [] [0, 1, 2, 3, 4, 5, 6, 7] [] [_, _, _, _, _, _, _, _] [] _ rfl rfl (by kernel_rfl) rfl impl_nil (⟨by first | rfl | (exfalso; revert h13; simp), rfl, rfl⟩)
              · replace h13 := ndf h13
                refine c_skip ?_
                refine e_in ?_
                refine e_then ?_
                refine c_reg ?_
                refine mv (.int _ _) rfl ?_
                refine addi rfl rfl rfl (by omega) ?_
                refine asg (.int _ _) rfl ?_
                refine jn ?_
                refine e_keep [2, 3, 4, 0] [1, 5, 6, 7] [_, _, _, _] rfl (by kernel_rfl) ?_
                exact e_loop (⟨i + 1, o86, o110_26, (rs.take kk ++ rs.drop (kk + 1))⟩ : Nat × Ow × Ow × List Spare) (⟨ho86, hk110_26, taken_nd hk1 hI1.2.2.1, taken_len hk1 hI1.2.2.2.1, by simp; omega⟩) (by simp; omega) (⟨rfl, rfl, trivial⟩) rfl rfl rfl
            · refine jt_fin [(15, 1), (11, 1), (12, 0), (13, 0), (14, 0), (16, 1), (17, 0)] ?_
              refine alo [pt (zarr : Key)] _ z30 rfl fun b16 => ⟨keepI [0, 4, 6, 7, 8] rfl, ?_⟩
              refine cal (Take_is bs23 m23 o71 most (l ++ (rs.take kk ++ rs.drop (kk + 1))) ho71 (taken_len hk1 hI1.2.2.2.1) (taken_nd hk1 hI1.2.2.1) (rs[kk].header) (rs[kk].n) (l2 := (l ++ (rs.take kk ++ rs.drop (kk + 1)))) (k := zarr) (f := false) (again_l hk1 hI1.2.2.1) (again_k hk1 hI1.2.2.1) (again_f hk1 hI1.2.2.1)) [1, 2, 3] [0, 4, 5] [_, _, _] rfl rfl rfl (by kernel_rfl) impl_nil rfl ?_; rintro _ _ _ ⟨o86, ho86, rfl, rfl, rfl⟩; refine ⟨keepI [0, 1, 6, 7, 8] rfl, ?_⟩
              refine mv (.tuple _) rfl ?_
              refine xtr (.agg _) rfl rfl ?_
              refine xtr (.bool _) rfl rfl ?_
              refine stw 2 _ [pt zarr] rfl rfl rfl rfl ty30 ⟨keepI [0, 1, 6, 7, 8] rfl, ?_⟩
              refine asg (.bool _) rfl ?_
              refine jt ?_
              refine c_seq ?_
              refine c_seq ?_
              refine c_dr [_, _, _, _, _, _, _, _, _] [] [(0, 0), (1, 0), (2, 0), (3, 0), (4, 0), (5, 0), (6, 0), (7, 0), (8, 0), (9, 0), (10, 0), (11, 0), (12, 0), (13, 0)] follows (by kernel_rfl) calm_body (keepS [0, 1, 2, 3, 4, 5, 6, 7, 8] rfl) ?_
              refine mv (.bool _) rfl ?_
              refine not_ rfl ?_
              refine mv (.bool _) rfl ?_
              refine g_on rfl rfl rfl ?_
              refine ldp 1 0 _ rfl rfl rfl rfl ty30 ?_
              refine g_on rfl rfl rfl ?_
              refine mv (.slice _ _ _) rfl ?_
              refine g_on rfl rfl rfl ?_
              refine mv (.int _ _) rfl ?_
              refine g_on rfl rfl rfl ?_
              refine ixs ((o2).vs) rs kk (Ow.vs_ok hI1.2.1) rfl rfl rfl Try.underlying22 ty33.sz hkk.symm hk1 ?_
              refine g_on rfl rfl rfl ?_
              refine fad rfl Try.underlying33 rfl ty30.sz ?_
              refine g_on rfl rfl rfl ?_
              refine ldsof 0 _ 2 hI1.2.1 rfl rfl rfl hk1 rfl rfl ty30 ?_
              refine g_on rfl rfl rfl ?_
              refine eqA (rs[kk].message) (rs[kk].message) false rfl rfl rfl rfl eq30 rfl Try.eqGuardType30 (by simp) ?_
              refine pkf (.bool _) rfl rfl ?_
              refine mv (.bool _) rfl ?_
              refine g_on rfl rfl rfl ?_
              refine mv (.bool _) rfl ?_
              refine pkf (.bool _) rfl rfl ?_
              refine jt ?_
              refine c_false rfl ?_
              refine c_skip ?_
              refine e_then ?_
              refine c_seq ?_
              refine c_dr [_, _, _, _, _, _, _, _] [] [(0, 0), (1, 0), (2, 0), (3, 0), (4, 0), (5, 0), (6, 0), (7, 1), (8, 0)] follows (by kernel_rfl) calm_body (keepS [1, 2, 3, 4, 5, 6, 7, 8] rfl) ?_
              refine mv (.slice _ _ _) rfl ?_
              refine mv (.int _ _) rfl ?_
              refine sli ((o2).vs) 0 kk rfl Try.underlying22 ty33.sz rfl (⟨_, congrArg (Value.int .i64) hkk.symm⟩) (by have := hI1.2.1.le; have : o2.vs.cap = o2.cap := rfl; omega) (by have := hI1.2.1.le; have : o2.vs.cap = o2.cap := rfl; omega) (by have := hI1.2.1.le; have : o2.vs.cap = o2.cap := rfl; omega) ?_
              refine mv (.slice _ _ _) rfl ?_
              refine mv (.int _ _) rfl ?_
              refine addi rfl rfl rfl (by omega) ?_
              refine sli ((o2).vs) (kk + 1) rs.length rfl Try.underlying22 ty33.sz (⟨_, congrArg (Value.int .i64) (show _ = ((kk + 1 : Nat) : Int) by omega)⟩) rfl (by have := hI1.2.1.le; have : o2.vs.cap = o2.cap := rfl; omega) (by have := hI1.2.1.le; have : o2.vs.cap = o2.cap := rfl; omega) (by have := hI1.2.1.le; have : o2.vs.cap = o2.cap := rfl; omega) ?_
              refine app 0 (Ow.cut o2 rs kk) (List.take kk rs) (rs.drop (kk + 1)) (Ow.cut_ok hI1.2.1 kk (by omega)) rfl ⟨(sub0 o2 65).1, by simp; omega, (sub0 o2 65).2⟩ (by rw [← Ow.cut_seg]; rfl) rfl (gives_tail 0 (kk + 1) hI1.2.1 (by omega) rfl rfl (by simp)) Try.underlying22 Try.underlying22 (.inl ⟨_, rfl⟩) ty33.sz by33 z33 rfl (by have h9 := hI1.2.2.2.1; simp at h9 ⊢; omega) rfl fun o110_29 hk110_29 => ⟨keepI [1, 2, 3, 4, 5, 6, 7, 8] rfl, ?_⟩
              refine asg (.slice _ _ _) rfl ?_
              refine jt ?_
              refine c_seq ?_
              refine c_reg ?_
              refine mv (.pointer _) rfl ?_
              refine cal (List_ct bs23 m23 o86 most (l ++ (rs.take kk ++ rs.drop (kk + 1))) ho86 (taken_len hk1 hI1.2.2.2.1) (taken_nd hk1 hI1.2.2.1)) [] [0, 1, 2, 3, 4, 5] [_, _, _, _, _, _] rfl rfl rfl (by kernel_rfl) (impl_cons (impl_at 6 rfl) (impl_cons (impl_at 7 rfl) (impl_cons (impl_at 8 rfl) impl_nil))) rfl ?_; rintro _ _ _ ⟨o112, ho112, rfl, rfl, rfl⟩; refine ⟨trivial, ?_⟩
              refine bsl (α := Spare) ([]) Try.underlying22 ty33.sz rfl (by decide) z33 rfl fun b113 => ⟨trivial, ?_⟩
              refine mv (.slice _ _ _) rfl ?_
              refine app 7 (⟨false, b113, 0, []⟩) ([] : List Spare) l (⟨by simp, fun _ => rfl, Nat.le_refl _⟩) rfl ⟨rfl, rfl, rfl⟩ rfl rfl (gives_vs 8 hs rfl) Try.underlying22 Try.underlying22 (.inl ⟨_, rfl⟩) ty33.sz by33 z33 rfl (by have h9 := hI1.2.2.2.1; simp at h9 ⊢; omega) rfl fun o115_30 hk115_30 => ⟨trivial, ?_⟩
              refine mv (.slice _ _ _) rfl ?_
              refine app 7 o115_30 (([] : List Spare) ++ l) ((List.take kk rs) ++ (rs.drop (kk + 1))) hk115_30 rfl ⟨rfl, rfl, rfl⟩ rfl rfl (gives_ow 0 hk110_29 rfl) Try.underlying22 Try.underlying22 (.inl ⟨_, rfl⟩) ty33.sz by33 z33 rfl (by have h9 := hI1.2.2.2.1; simp at h9 ⊢; omega) rfl fun o117_31 hk117_31 => ⟨trivial, ?_⟩
              refine cal (sameSpares_ct ((o112).vs) ((o117_31).vs) (l ++ (rs.take kk ++ rs.drop (kk + 1))) ((([] : List Spare) ++ l) ++ ((List.take kk rs) ++ (rs.drop (kk + 1)))) (Ow.vs_ok ho112) (Ow.vs_ok hk117_31) (by have := taken_len hk1 hI1.2.2.2.1; omega)) [] [0, 1, 2, 3, 4, 5, 6, 7] [_, _, _, _, _, _, _, _] rfl rfl rfl (by kernel_rfl) (impl_cons (ow_impl 9 rfl) (impl_cons (ow_impl 10 rfl) impl_nil)) rfl ?_; rintro _ _ _ ⟨rfl, rfl, rfl⟩; refine ⟨trivial, ?_⟩
              refine not_ rfl ?_
              refine jt ?_
              refine c_cond rfl (fun h14 => ?_) (fun h14 => ?_)
              · replace h14 := ndt h14
                refine c_seq ?_
                refine c_reg ?_
                refine asg (.bool _) rfl ?_
                refine jt ?_
                refine c_ret ?_
                exact j_end (own0 := []) (ro0 := [s.seg l, t.seg more, u.seg ord]) (.inl rfl) rfl (hr1 Try.results5 (rvt (v := (.bool _)) rfl)) [] [0, 1, 2, 3, 4, 5, 6, 7] [] [_, _, _, _, _, _, _, _] [] _ rfl rfl (by kernel_rfl) rfl impl_nil (⟨by first | rfl | (exfalso; revert h14; simp), rfl, rfl⟩)
              · replace h14 := ndf h14
                refine c_skip ?_
                refine e_in ?_
                refine e_then ?_
                refine c_reg ?_
                refine mv (.int _ _) rfl ?_
                refine addi rfl rfl rfl (by omega) ?_
                refine asg (.int _ _) rfl ?_
                refine jn ?_
                refine e_keep [3, 4, 5, 0] [1, 2, 6, 7] [_, _, _, _] rfl (by kernel_rfl) ?_
                exact e_loop (⟨i + 1, o86, o110_29, (rs.take kk ++ rs.drop (kk + 1))⟩ : Nat × Ow × Ow × List Spare) (⟨ho86, hk110_29, taken_nd hk1 hI1.2.2.1, taken_len hk1 hI1.2.2.2.1, by simp; omega⟩) (by simp; omega) (⟨rfl, rfl, trivial⟩) rfl rfl rfl
          · refine jt_fin [(15, 1), (11, 1), (12, 0), (13, 0), (14, 0), (16, 1), (17, 0)] ?_
            refine alo [pt (zarr : Key)] _ z30 rfl fun b14 => ⟨keepI [3, 5, 6, 7] rfl, ?_⟩
            refine cal (Take_is bs23 m23 o3 most (l ++ rs) hI1.1 hI1.2.2.2.1 hI1.2.2.1 (rs[kk].header) (rs[kk].n) (l2 := (l ++ (rs.take kk ++ rs.drop (kk + 1)))) (k := rs[kk].message) (f := true) (taken_l hk1 hI1.2.2.1) (taken_k hk1 hI1.2.2.1) (taken_f hk1 hI1.2.2.1)) [0, 1, 2] [3, 4] [_, _] rfl rfl rfl (by kernel_rfl) impl_nil rfl ?_; rintro _ _ _ ⟨o71, ho71, rfl, rfl, rfl⟩; refine ⟨keepI [0, 5, 6, 7] rfl, ?_⟩
            refine mv (.tuple _) rfl ?_
            refine xtr (.agg _) rfl rfl ?_
            refine xtr (.bool _) rfl rfl ?_
            refine stw 1 _ [pt (rs[kk].message)] rfl rfl rfl rfl ty30 ⟨keepI [0, 5, 6, 7] rfl, ?_⟩
            refine asg (.bool _) rfl ?_
            refine jt ?_
            refine c_seq ?_
            refine c_drT [_, _, _, _, _] [] (PT.of [(0, 0), (1, 0), (2, 0), (3, 0), (4, 0), (5, 0), (6, 0), (7, 0), (8, 0), (9, 0), (10, 0)] (.alt (PT.of [(11, 1), (12, 0), (13, 0), (14, 0), (15, 1), (16, 1), (17, 0)] .leaf) (PT.of [(15, 1), (11, 1), (12, 0), (13, 0), (14, 0), (16, 1), (17, 0)] .leaf))) follows (by kernel_rfl) calm_body (keepS [0, 1, 5, 6, 7] rfl) ?_
            refine jt_of [(0, 0), (1, 0), (2, 0), (3, 0), (4, 0), (5, 0), (6, 0), (7, 0), (8, 0), (9, 0), (10, 0)] ?_
            refine mv (.pointer _) rfl ?_
            refine mv (.slice _ _ _) rfl ?_
            refine mv (.int _ _) rfl ?_
            refine ixs ((o2).vs) rs kk (Ow.vs_ok hI1.2.1) rfl rfl rfl Try.underlying22 ty33.sz hkk.symm hk1 ?_
            refine fad rfl Try.underlying33 rfl ty30.sz ?_
            refine ldsof 0 _ 0 hI1.2.1 rfl rfl rfl hk1 rfl rfl ty30 ?_
            refine mv (.slice _ _ _) rfl ?_
            refine mv (.int _ _) rfl ?_
            refine ixs ((o2).vs) rs kk (Ow.vs_ok hI1.2.1) rfl rfl rfl Try.underlying22 ty33.sz hkk.symm hk1 ?_
            refine fad rfl Try.underlying33 rfl ty31.sz ?_
            refine ldsof 0 _ 1 hI1.2.1 rfl rfl rfl hk1 rfl rfl ty31 ?_
            refine j_alt (keepS [0, 1, 5, 6, 7] rfl) ?_
            refine jt_alt ?_ ?_
            · refine jt_fin [(11, 1), (12, 0), (13, 0), (14, 0), (15, 1), (16, 1), (17, 0)] ?_
              refine cal (Take_is bs23 m23 o71 most (l ++ (rs.take kk ++ rs.drop (kk + 1))) ho71 (taken_len hk1 hI1.2.2.2.1) (taken_nd hk1 hI1.2.2.1) (rs[kk].header) (rs[kk].n) (l2 := (l ++ (rs.take kk ++ rs.drop (kk + 1)))) (k := zarr) (f := false) (again_l hk1 hI1.2.2.1) (again_k hk1 hI1.2.2.1) (again_f hk1 hI1.2.2.1)) [2, 3, 4] [0, 1] [_, _] rfl rfl rfl (by kernel_rfl) impl_nil rfl ?_; rintro _ _ _ ⟨o86, ho86, rfl, rfl, rfl⟩; refine ⟨keepI [0, 1, 5, 6, 7] rfl, ?_⟩
              refine mv (.tuple _) rfl ?_
              refine xtr (.agg _) rfl rfl ?_
              refine xtr (.bool _) rfl rfl ?_
              refine alo [pt (zarr : Key)] _ z30 rfl fun b16 => ⟨keepI [0, 1, 6, 7, 8] rfl, ?_⟩
              refine stw 5 _ [pt zarr] rfl rfl rfl rfl ty30 ⟨keepI [0, 1, 6, 7, 8] rfl, ?_⟩
              refine asg (.bool _) rfl ?_
              refine jt ?_
              refine c_seq ?_
              refine c_seq ?_
              refine c_dr [_, _, _, _, _, _, _, _, _] [] [(0, 0), (1, 0), (2, 0), (3, 0), (4, 0), (5, 0), (6, 0), (7, 0), (8, 0), (9, 0), (10, 0), (11, 0), (12, 0), (13, 0)] follows (by kernel_rfl) calm_body (keepS [0, 1, 2, 3, 4, 5, 6, 7, 8] rfl) ?_
              refine mv (.bool _) rfl ?_
              refine not_ rfl ?_
              refine mv (.bool _) rfl ?_
              refine g_on rfl rfl rfl ?_
              refine ldp 1 0 _ rfl rfl rfl rfl ty30 ?_
              refine g_on rfl rfl rfl ?_
              refine mv (.slice _ _ _) rfl ?_
              refine g_on rfl rfl rfl ?_
              refine mv (.int _ _) rfl ?_
              refine g_on rfl rfl rfl ?_
              refine ixs ((o2).vs) rs kk (Ow.vs_ok hI1.2.1) rfl rfl rfl Try.underlying22 ty33.sz hkk.symm hk1 ?_
              refine g_on rfl rfl rfl ?_
              refine fad rfl Try.underlying33 rfl ty30.sz ?_
              refine g_on rfl rfl rfl ?_
              refine ldsof 0 _ 2 hI1.2.1 rfl rfl rfl hk1 rfl rfl ty30 ?_
              refine g_on rfl rfl rfl ?_
              refine eqA (rs[kk].message) (rs[kk].message) false rfl rfl rfl rfl eq30 rfl Try.eqGuardType30 (by simp) ?_
              refine pkf (.bool _) rfl rfl ?_
              refine mv (.bool _) rfl ?_
              refine g_on rfl rfl rfl ?_
              refine mv (.bool _) rfl ?_
              refine pkf (.bool _) rfl rfl ?_
              refine jt ?_
              refine c_false rfl ?_
              refine c_skip ?_
              refine e_then ?_
              refine c_seq ?_
              refine c_dr [_, _, _, _, _, _, _, _] [] [(0, 0), (1, 0), (2, 0), (3, 0), (4, 0), (5, 0), (6, 0), (7, 1), (8, 0)] follows (by kernel_rfl) calm_body (keepS [1, 2, 3, 4, 5, 6, 7, 8] rfl) ?_
              refine mv (.slice _ _ _) rfl ?_
              refine mv (.int _ _) rfl ?_
              refine sli ((o2).vs) 0 kk rfl Try.underlying22 ty33.sz rfl (⟨_, congrArg (Value.int .i64) hkk.symm⟩) (by have := hI1.2.1.le; have : o2.vs.cap = o2.cap := rfl; omega) (by have := hI1.2.1.le; have : o2.vs.cap = o2.cap := rfl; omega) (by have := hI1.2.1.le; have : o2.vs.cap = o2.cap := rfl; omega) ?_
              refine mv (.slice _ _ _) rfl ?_
              refine mv (.int _ _) rfl ?_
              refine addi rfl rfl rfl (by omega) ?_
              refine sli ((o2).vs) (kk + 1) rs.length rfl Try.underlying22 ty33.sz (⟨_, congrArg (Value.int .i64) (show _ = ((kk + 1 : Nat) : Int) by omega)⟩) rfl (by have := hI1.2.1.le; have : o2.vs.cap = o2.cap := rfl; omega) (by have := hI1.2.1.le; have : o2.vs.cap = o2.cap := rfl; omega) (by have := hI1.2.1.le; have : o2.vs.cap = o2.cap := rfl; omega) ?_
              refine app 0 (Ow.cut o2 rs kk) (List.take kk rs) (rs.drop (kk + 1)) (Ow.cut_ok hI1.2.1 kk (by omega)) rfl ⟨(sub0 o2 65).1, by simp; omega, (sub0 o2 65).2⟩ (by rw [← Ow.cut_seg]; rfl) rfl (gives_tail 0 (kk + 1) hI1.2.1 (by omega) rfl rfl (by simp)) Try.underlying22 Try.underlying22 (.inl ⟨_, rfl⟩) ty33.sz by33 z33 rfl (by have h9 := hI1.2.2.2.1; simp at h9 ⊢; omega) rfl fun o110_32 hk110_32 => ⟨keepI [1, 2, 3, 4, 5, 6, 7, 8] rfl, ?_⟩
              refine asg (.slice _ _ _) rfl ?_
              refine jt ?_
              refine c_seq ?_
              refine c_reg ?_
              refine mv (.pointer _) rfl ?_
              refine cal (List_ct bs23 m23 o86 most (l ++ (rs.take kk ++ rs.drop (kk + 1))) ho86 (taken_len hk1 hI1.2.2.2.1) (taken_nd hk1 hI1.2.2.1)) [] [0, 1, 2, 3, 4, 5] [_, _, _, _, _, _] rfl rfl rfl (by kernel_rfl) (impl_cons (impl_at 5 rfl) (impl_cons (impl_at 6 rfl) (impl_cons (impl_at 7 rfl) impl_nil))) rfl ?_; rintro _ _ _ ⟨o112, ho112, rfl, rfl, rfl⟩; refine ⟨trivial, ?_⟩
              refine bsl (α := Spare) ([]) Try.underlying22 ty33.sz rfl (by decide) z33 rfl fun b113 => ⟨trivial, ?_⟩
              refine mv (.slice _ _ _) rfl ?_
              refine app 7 (⟨false, b113, 0, []⟩) ([] : List Spare) l (⟨by simp, fun _ => rfl, Nat.le_refl _⟩) rfl ⟨rfl, rfl, rfl⟩ rfl rfl (gives_vs 8 hs rfl) Try.underlying22 Try.underlying22 (.inl ⟨_, rfl⟩) ty33.sz by33 z33 rfl (by have h9 := hI1.2.2.2.1; simp at h9 ⊢; omega) rfl fun o115_33 hk115_33 => ⟨trivial, ?_⟩
              refine mv (.slice _ _ _) rfl ?_
              refine app 7 o115_33 (([] : List Spare) ++ l) ((List.take kk rs) ++ (rs.drop (kk + 1))) hk115_33 rfl ⟨rfl, rfl, rfl⟩ rfl rfl (gives_ow 0 hk110_32 rfl) Try.underlying22 Try.underlying22 (.inl ⟨_, rfl⟩) ty33.sz by33 z33 rfl (by have h9 := hI1.2.2.2.1; simp at h9 ⊢; omega) rfl fun o117_34 hk117_34 => ⟨trivial, ?_⟩
              refine cal (sameSpares_ct ((o112).vs) ((o117_34).vs) (l ++ (rs.take kk ++ rs.drop (kk + 1))) ((([] : List Spare) ++ l) ++ ((List.take kk rs) ++ (rs.drop (kk + 1)))) (Ow.vs_ok ho112) (Ow.vs_ok hk117_34) (by have := taken_len hk1 hI1.2.2.2.1; omega)) [] [0, 1, 2, 3, 4, 5, 6, 7] [_, _, _, _, _, _, _, _] rfl rfl rfl (by kernel_rfl) (impl_cons (ow_impl 9 rfl) (impl_cons (ow_impl 10 rfl) impl_nil)) rfl ?_; rintro _ _ _ ⟨rfl, rfl, rfl⟩; refine ⟨trivial, ?_⟩
              refine not_ rfl ?_
              refine jt ?_
              refine c_cond rfl (fun h15 => ?_) (fun h15 => ?_)
              · replace h15 := ndt h15
                refine c_seq ?_
                refine c_reg ?_
                refine asg (.bool _) rfl ?_
                refine jt ?_
                refine c_ret ?_
                exact j_end (own0 := []) (ro0 := [s.seg l, t.seg more, u.seg ord]) (.inl rfl) rfl (hr1 Try.results5 (rvt (v := (.bool _)) rfl)) [] [0, 1, 2, 3, 4, 5, 6, 7] [] [_, _, _, _, _, _, _, _] [] _ rfl rfl (by kernel_rfl) rfl impl_nil (⟨by first | rfl | (exfalso; revert h15; simp), rfl, rfl⟩)
              · replace h15 := ndf h15
                refine c_skip ?_
                refine e_in ?_
                refine e_then ?_
                refine c_reg ?_
                refine mv (.int _ _) rfl ?_
                refine addi rfl rfl rfl (by omega) ?_
                refine asg (.int _ _) rfl ?_
                refine jn ?_
                refine e_keep [2, 3, 4, 0] [1, 5, 6, 7] [_, _, _, _] rfl (by kernel_rfl) ?_
                exact e_loop (⟨i + 1, o86, o110_32, (rs.take kk ++ rs.drop (kk + 1))⟩ : Nat × Ow × Ow × List Spare) (⟨ho86, hk110_32, taken_nd hk1 hI1.2.2.1, taken_len hk1 hI1.2.2.2.1, by simp; omega⟩) (by simp; omega) (⟨rfl, rfl, trivial⟩) rfl rfl rfl
            · refine jt_fin [(15, 1), (11, 1), (12, 0), (13, 0), (14, 0), (16, 1), (17, 0)] ?_
              refine alo [pt (zarr : Key)] _ z30 rfl fun b16 => ⟨keepI [0, 1, 6, 7, 8] rfl, ?_⟩
              refine cal (Take_is bs23 m23 o71 most (l ++ (rs.take kk ++ rs.drop (kk + 1))) ho71 (taken_len hk1 hI1.2.2.2.1) (taken_nd hk1 hI1.2.2.1) (rs[kk].header) (rs[kk].n) (l2 := (l ++ (rs.take kk ++ rs.drop (kk + 1)))) (k := zarr) (f := false) (again_l hk1 hI1.2.2.1) (again_k hk1 hI1.2.2.1) (again_f hk1 hI1.2.2.1)) [2, 3, 4] [0, 1, 5] [_, _, _] rfl rfl rfl (by kernel_rfl) impl_nil rfl ?_; rintro _ _ _ ⟨o86, ho86, rfl, rfl, rfl⟩; refine ⟨keepI [0, 1, 6, 7, 8] rfl, ?_⟩
              refine mv (.tuple _) rfl ?_
              refine xtr (.agg _) rfl rfl ?_
              refine xtr (.bool _) rfl rfl ?_
              refine stw 2 _ [pt zarr] rfl rfl rfl rfl ty30 ⟨keepI [0, 1, 6, 7, 8] rfl, ?_⟩
              refine asg (.bool _) rfl ?_
              refine jt ?_
              refine c_seq ?_
              refine c_seq ?_
              refine c_dr [_, _, _, _, _, _, _, _, _] [] [(0, 0), (1, 0), (2, 0), (3, 0), (4, 0), (5, 0), (6, 0), (7, 0), (8, 0), (9, 0), (10, 0), (11, 0), (12, 0), (13, 0)] follows (by kernel_rfl) calm_body (keepS [0, 1, 2, 3, 4, 5, 6, 7, 8] rfl) ?_
              refine mv (.bool _) rfl ?_
              refine not_ rfl ?_
              refine mv (.bool _) rfl ?_
              refine g_on rfl rfl rfl ?_
              refine ldp 1 0 _ rfl rfl rfl rfl ty30 ?_
              refine g_on rfl rfl rfl ?_
              refine mv (.slice _ _ _) rfl ?_
              refine g_on rfl rfl rfl ?_
              refine mv (.int _ _) rfl ?_
              refine g_on rfl rfl rfl ?_
              refine ixs ((o2).vs) rs kk (Ow.vs_ok hI1.2.1) rfl rfl rfl Try.underlying22 ty33.sz hkk.symm hk1 ?_
              refine g_on rfl rfl rfl ?_
              refine fad rfl Try.underlying33 rfl ty30.sz ?_
              refine g_on rfl rfl rfl ?_
              refine ldsof 0 _ 2 hI1.2.1 rfl rfl rfl hk1 rfl rfl ty30 ?_
              refine g_on rfl rfl rfl ?_
              refine eqA (rs[kk].message) (rs[kk].message) false rfl rfl rfl rfl eq30 rfl Try.eqGuardType30 (by simp) ?_
              refine pkf (.bool _) rfl rfl ?_
              refine mv (.bool _) rfl ?_
              refine g_on rfl rfl rfl ?_
              refine mv (.bool _) rfl ?_
              refine pkf (.bool _) rfl rfl ?_
              refine jt ?_
              refine c_false rfl ?_
              refine c_skip ?_
              refine e_then ?_
              refine c_seq ?_
              refine c_dr [_, _, _, _, _, _, _, _] [] [(0, 0), (1, 0), (2, 0), (3, 0), (4, 0), (5, 0), (6, 0), (7, 1), (8, 0)] follows (by kernel_rfl) calm_body (keepS [1, 2, 3, 4, 5, 6, 7, 8] rfl) ?_
              refine mv (.slice _ _ _) rfl ?_
              refine mv (.int _ _) rfl ?_
              refine sli ((o2).vs) 0 kk rfl Try.underlying22 ty33.sz rfl (⟨_, congrArg (Value.int .i64) hkk.symm⟩) (by have := hI1.2.1.le; have : o2.vs.cap = o2.cap := rfl; omega) (by have := hI1.2.1.le; have : o2.vs.cap = o2.cap := rfl; omega) (by have := hI1.2.1.le; have : o2.vs.cap = o2.cap := rfl; omega) ?_
              refine mv (.slice _ _ _) rfl ?_
              refine mv (.int _ _) rfl ?_
              refine addi rfl rfl rfl (by omega) ?_
              refine sli ((o2).vs) (kk + 1) rs.length rfl Try.underlying22 ty33.sz (⟨_, congrArg (Value.int .i64) (show _ = ((kk + 1 : Nat) : Int) by omega)⟩) rfl (by have := hI1.2.1.le; have : o2.vs.cap = o2.cap := rfl; omega) (by have := hI1.2.1.le; have : o2.vs.cap = o2.cap := rfl; omega) (by have := hI1.2.1.le; have : o2.vs.cap = o2.cap := rfl; omega) ?_
              refine app 0 (Ow.cut o2 rs kk) (List.take kk rs) (rs.drop (kk + 1)) (Ow.cut_ok hI1.2.1 kk (by omega)) rfl ⟨(sub0 o2 65).1, by simp; omega, (sub0 o2 65).2⟩ (by rw [← Ow.cut_seg]; rfl) rfl (gives_tail 0 (kk + 1) hI1.2.1 (by omega) rfl rfl (by simp)) Try.underlying22 Try.underlying22 (.inl ⟨_, rfl⟩) ty33.sz by33 z33 rfl (by have h9 := hI1.2.2.2.1; simp at h9 ⊢; omega) rfl fun o110_35 hk110_35 => ⟨keepI [1, 2, 3, 4, 5, 6, 7, 8] rfl, ?_⟩
              refine asg (.slice _ _ _) rfl ?_
              refine jt ?_
              refine c_seq ?_
              refine c_reg ?_
              refine mv (.pointer _) rfl ?_
              refine cal (List_ct bs23 m23 o86 most (l ++ (rs.take kk ++ rs.drop (kk + 1))) ho86 (taken_len hk1 hI1.2.2.2.1) (taken_nd hk1 hI1.2.2.1)) [] [0, 1, 2, 3, 4, 5] [_, _, _, _, _, _] rfl rfl rfl (by kernel_rfl) (impl_cons (impl_at 6 rfl) (impl_cons (impl_at 7 rfl) (impl_cons (impl_at 8 rfl) impl_nil))) rfl ?_; rintro _ _ _ ⟨o112, ho112, rfl, rfl, rfl⟩; refine ⟨trivial, ?_⟩
              refine bsl (α := Spare) ([]) Try.underlying22 ty33.sz rfl (by decide) z33 rfl fun b113 => ⟨trivial, ?_⟩
              refine mv (.slice _ _ _) rfl ?_
              refine app 7 (⟨false, b113, 0, []⟩) ([] : List Spare) l (⟨by simp, fun _ => rfl, Nat.le_refl _⟩) rfl ⟨rfl, rfl, rfl⟩ rfl rfl (gives_vs 8 hs rfl) Try.underlying22 Try.underlying22 (.inl ⟨_, rfl⟩) ty33.sz by33 z33 rfl (by have h9 := hI1.2.2.2.1; simp at h9 ⊢; omega) rfl fun o115_36 hk115_36 => ⟨trivial, ?_⟩
              refine mv (.slice _ _ _) rfl ?_
              refine app 7 o115_36 (([] : List Spare) ++ l) ((List.take kk rs) ++ (rs.drop (kk + 1))) hk115_36 rfl ⟨rfl, rfl, rfl⟩ rfl rfl (gives_ow 0 hk110_35 rfl) Try.underlying22 Try.underlying22 (.inl ⟨_, rfl⟩) ty33.sz by33 z33 rfl (by have h9 := hI1.2.2.2.1; simp at h9 ⊢; omega) rfl fun o117_37 hk117_37 => ⟨trivial, ?_⟩
              refine cal (sameSpares_ct ((o112).vs) ((o117_37).vs) (l ++ (rs.take kk ++ rs.drop (kk + 1))) ((([] : List Spare) ++ l) ++ ((List.take kk rs) ++ (rs.drop (kk + 1)))) (Ow.vs_ok ho112) (Ow.vs_ok hk117_37) (by have := taken_len hk1 hI1.2.2.2.1; omega)) [] [0, 1, 2, 3, 4, 5, 6, 7] [_, _, _, _, _, _, _, _] rfl rfl rfl (by kernel_rfl) (impl_cons (ow_impl 9 rfl) (impl_cons (ow_impl 10 rfl) impl_nil)) rfl ?_; rintro _ _ _ ⟨rfl, rfl, rfl⟩; refine ⟨trivial, ?_⟩
              refine not_ rfl ?_
              refine jt ?_
              refine c_cond rfl (fun h16 => ?_) (fun h16 => ?_)
              · replace h16 := ndt h16
                refine c_seq ?_
                refine c_reg ?_
                refine asg (.bool _) rfl ?_
                refine jt ?_
                refine c_ret ?_
                exact j_end (own0 := []) (ro0 := [s.seg l, t.seg more, u.seg ord]) (.inl rfl) rfl (hr1 Try.results5 (rvt (v := (.bool _)) rfl)) [] [0, 1, 2, 3, 4, 5, 6, 7] [] [_, _, _, _, _, _, _, _] [] _ rfl rfl (by kernel_rfl) rfl impl_nil (⟨by first | rfl | (exfalso; revert h16; simp), rfl, rfl⟩)
              · replace h16 := ndf h16
                refine c_skip ?_
                refine e_in ?_
                refine e_then ?_
                refine c_reg ?_
                refine mv (.int _ _) rfl ?_
                refine addi rfl rfl rfl (by omega) ?_
                refine asg (.int _ _) rfl ?_
                refine jn ?_
                refine e_keep [3, 4, 5, 0] [1, 2, 6, 7] [_, _, _, _] rfl (by kernel_rfl) ?_
                exact e_loop (⟨i + 1, o86, o110_35, (rs.take kk ++ rs.drop (kk + 1))⟩ : Nat × Ow × Ow × List Spare) (⟨ho86, hk110_35, taken_nd hk1 hI1.2.2.1, taken_len hk1 hI1.2.2.2.1, by simp; omega⟩) (by simp; omega) (⟨rfl, rfl, trivial⟩) rfl rfl rfl
      · replace h2 := of_decide_eq_false h2
        refine c_exit rfl ?_
        refine e_then ?_
        refine c_seq ?_
        refine c_reg ?_
        refine asg (.bool _) rfl ?_
        refine jt ?_
        refine c_ret ?_
        exact j_end (own0 := []) (ro0 := [s.seg l, t.seg more, u.seg ord]) (.inl rfl) rfl (hr1 Try.results5 (rvt (v := (.bool _)) rfl)) [] [0, 1, 2, 3] [] [_, _, _, _] [] _ rfl rfl (by kernel_rfl) rfl impl_nil (⟨by first | rfl | (exfalso; revert h16; simp), rfl, rfl⟩)
  · refine ⟨trivial, ?_⟩
    refine mv (.tuple _) rfl ?_
    refine xtr (.pointer _) rfl rfl ?_
    refine xtr (.int _ _) rfl rfl ?_
    refine asg (.pointer _) rfl ?_
    refine asg (.int _ _) rfl ?_
    refine jt ?_
    refine c_seq ?_
    refine c_seq ?_
    refine c_reg ?_
    refine mv (.int _ _) rfl ?_
    refine cmp true rfl rfl (by simp only [cmpV, decide_eq_false hF23]; simp) ?_
    refine mv (.bool _) rfl ?_
    refine g_off rfl rfl rfl rfl ?_
    refine g_off rfl rfl rfl rfl ?_
    refine g_off rfl rfl rfl rfl ?_
    refine g_off rfl rfl rfl rfl ?_
    refine pkt (.bool _) rfl rfl ?_
    refine jt ?_
    refine c_true rfl ?_
    refine c_seq ?_
    refine c_reg ?_
    refine asg (.bool _) rfl ?_
    refine jt ?_
    refine c_ret ?_
    exact j_end (own0 := []) (ro0 := [s.seg l, t.seg more, u.seg ord]) (.inl rfl) rfl (hr1 Try.results5 (rvt (v := (.bool _)) rfl)) [] [] [] [] [] _ rfl rfl (by kernel_rfl) rfl impl_nil (⟨by first | rfl | (exfalso; revert h16; simp), rfl, rfl⟩)
end Go.Proofs.Ytacfjmjcgolhfaa
