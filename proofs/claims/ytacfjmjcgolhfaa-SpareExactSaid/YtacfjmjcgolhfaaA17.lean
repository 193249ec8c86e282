/- Contracts of the program's functions, walked. No condition. -/
import Derived.Test.YtacfjmjcgolhfaaA16
namespace Go.Proofs.Ytacfjmjcgolhfaa
open Go Go.Proofs Go.PW
open Go.PW.Enc (enc val)

theorem found_at {l : List Spare} (hnd : (l.map plc).Nodup) {k : Nat} (hk : k < l.length) : mget (⟨l[k].header, l[k].n⟩ : SpP) (List.map skv l) = some l[k].message := by
  have h1 := mget_at (kv := l.map skv) (by rw [skv_fst]; exact hnd) (i := k) (by simpa)
  simp only [List.getElem_map, skv] at h1
  exact h1
theorem no_meet {l : List Spare} (hnd : (l.map plc).Nodup) {k j : Nat} (hk : k < l.length) (hj : j < k) : ¬ meets l[k] (l[j]'(by omega)) = true := fun h => by
  have h1 := of_decide_eq_true h
  have h2 := (List.pairwise_iff_getElem.1 hnd) j k (by simp; omega) (by simpa using hk) hj
  refine h2 ?_
  simp only [List.getElem_map, plc]
  rw [h1.1, h1.2]

set_option maxRecDepth 20000 in
set_option maxHeartbeats 4000000 in
theorem plain_ct (bs m : Nat) (o : Ow) (most : Int) (l : List Spare) (ho : o.ok (List.map plc l)) (hm : 0 ≤ most ∧ most ≤ 2000) (hl : (l.length : Int) ≤ most) (hnd : (l.map plc).Nodup) : Ct Try.prog 22 [.pointer (some ⟨bs, 0, none⟩), .int .i64 most] [] [[(bs, .cells (cat [p1 (.int .i64 most), p1 (.map (some m)), p1 (.slice o.adr (List.map plc l).length o.cap)]) 76)], [(m, .pred (isMap (List.map skv l)))], o.seg (List.map plc l) 72] (fun v o r => v = .bool true ∧ o = [] ∧ r = []) := by
  refine ct_enter Try.func22 rfl Try.ntmps22 (by kernel_rfl) rfl fun w0 => ?_
  refine c_seq ?_
  refine c_reg ?_
  refine asg (.bool _) rfl ?_
  refine jt ?_
  refine c_seq ?_
  refine c_reg ?_
  refine mv (.pointer _) rfl ?_
  refine cal (List_ct bs m o most l ho (by omega) (by assumption)) [] [] [] rfl rfl rfl (by kernel_rfl) (impl_cons (impl_at 0 rfl) (impl_cons (impl_at 1 rfl) (impl_cons (impl_at 2 rfl) impl_nil))) rfl ?_; rintro _ _ _ ⟨o13, ho13, rfl, rfl, rfl⟩; refine ⟨trivial, ?_⟩
  refine asg (.slice _ _ _) rfl ?_
  refine jt ?_
  refine c_seq ?_
  refine c_seq ?_
  refine c_reg ?_
  refine mv (.slice _ _ _) rfl ?_
  refine lenS rfl Try.underlying22 ?_
  refine mv (.pointer _) rfl ?_
  refine cal (Len_ct bs m o most l ho) [] [0] [_] rfl rfl rfl (by kernel_rfl) (impl_cons (impl_at 0 rfl) (impl_cons (impl_at 1 rfl) (impl_cons (impl_at 2 rfl) impl_nil))) rfl ?_; rintro _ _ _ ⟨rfl, rfl, rfl⟩; refine ⟨trivial, ?_⟩
  refine cmp false rfl rfl (by simp [cmpV]) ?_
  refine mv (.bool _) rfl ?_
  refine g_on rfl rfl rfl ?_
  refine mv (.pointer _) rfl ?_
  refine g_on rfl rfl rfl ?_
  refine cal (Len_ct bs m o most l ho) [] [0] [_] rfl rfl rfl (by kernel_rfl) (impl_cons (impl_at 0 rfl) (impl_cons (impl_at 1 rfl) (impl_cons (impl_at 2 rfl) impl_nil))) rfl ?_; rintro _ _ _ ⟨rfl, rfl, rfl⟩; refine ⟨trivial, ?_⟩
  refine g_on rfl rfl rfl ?_
  refine mv (.int _ _) rfl ?_
  refine g_on rfl rfl rfl ?_
  refine cmp _ rfl rfl rfl ?_
  refine pkf (.bool _) rfl rfl ?_
  refine mv (.bool _) rfl ?_
  refine jsplit 25 rfl (fun h1 => ?_) (fun h1 => ?_)
  · replace h1 := of_decide_eq_true h1
    refine g_off rfl rfl rfl rfl ?_
    refine g_off rfl rfl rfl rfl ?_
    refine g_off rfl rfl rfl rfl ?_
    refine g_off rfl rfl rfl rfl ?_
    refine g_off rfl rfl rfl rfl ?_
    refine g_off rfl rfl rfl rfl ?_
    refine g_off rfl rfl rfl rfl ?_
    refine pkt (.bool _) rfl rfl ?_
    refine jt ?_
    refine c_true rfl ?_
    refine c_seq ?_
    refine c_reg ?_
    refine asg (.bool _) rfl ?_
    refine jt ?_
    refine c_ret ?_
    exact j_end (own0 := []) (ro0 := [[(bs, .cells (cat [p1 (.int .i64 most), p1 (.map (some m)), p1 (.slice o.adr (List.map plc l).length o.cap)]) 76)], [(m, .pred (isMap (List.map skv l)))], o.seg (List.map plc l) 72]) (.inl rfl) rfl (hr1 Try.results22 (rvt (v := (.bool _)) rfl)) [] [0] [] [_] [] _ rfl rfl (by kernel_rfl) rfl impl_nil (absurd hl (by omega))
  · replace h1 := of_decide_eq_false h1
    refine g_on rfl rfl rfl ?_
    refine mv (.pointer _) rfl ?_
    refine g_on rfl rfl rfl ?_
    refine cal (Room_ct bs m o most l ho (by omega) (by omega)) [] [0] [_] rfl rfl rfl (by kernel_rfl) (impl_cons (impl_at 0 rfl) (impl_cons (impl_at 1 rfl) (impl_cons (impl_at 2 rfl) impl_nil))) rfl ?_; rintro _ _ _ ⟨rfl, rfl, rfl⟩; refine ⟨trivial, ?_⟩
    refine g_on rfl rfl rfl ?_
    refine mv (.int _ _) rfl ?_
    refine g_on rfl rfl rfl ?_
    refine mv (.pointer _) rfl ?_
    refine g_on rfl rfl rfl ?_
    refine cal (Len_ct bs m o most l ho) [] [0] [_] rfl rfl rfl (by kernel_rfl) (impl_cons (impl_at 0 rfl) (impl_cons (impl_at 1 rfl) (impl_cons (impl_at 2 rfl) impl_nil))) rfl ?_; rintro _ _ _ ⟨rfl, rfl, rfl⟩; refine ⟨trivial, ?_⟩
    refine g_on rfl rfl rfl ?_
    refine subi rfl rfl rfl (by omega) ?_
    refine g_on rfl rfl rfl ?_
    refine cmp false rfl rfl (by simp [cmpV]) ?_
    refine pkf (.bool _) rfl rfl ?_
    refine jt ?_
    refine c_false rfl ?_
    refine c_skip ?_
    refine e_then ?_
    refine c_seq ?_
    refine c_reg ?_
    refine asg (.slice _ _ _) rfl ?_
    refine jt ?_
    refine c_seq ?_
    refine c_seq ?_
    refine c_reg ?_
    refine asg (.int _ _) rfl ?_
    refine jt ?_
    refine c_block ?_
    refine c_addE ?_
    refine c_loop (σ := Nat × Ow) (fun ⟨k, o2⟩ => k ≤ l.length ∧ o2.ok (hdrs (l.take k))) (fun ⟨k, o2⟩ => l.length - k) (fun ⟨k, o2⟩ => [(7, .int .i64 (k : Int)), (6, .slice o2.adr (hdrs (l.take k)).length o2.cap)]) (fun ⟨k, o2⟩ => [o13.seg l 33, o2.seg (hdrs (l.take k)) 30]) (fun ⟨k, o2⟩ => [[(bs, .cells (cat [p1 (.int .i64 most), p1 (.map (some m)), p1 (.slice o.adr (List.map plc l).length o.cap)]) 76)], [(m, .pred (isMap (List.map skv l)))], o.seg (List.map plc l) 72]) [4, 6, 7, 8, 9, 10, 11, 34, 35, 36, 37, 38, 39, 40, 41, 42, 43, 44, 45, 46, 47, 48, 49, 50, 51, 52, 53, 54, 55, 56, 57, 58, 59, 60, 61, 62, 63, 64, 65, 66, 67, 68, 69, 70, 71, 72, 73, 74, 75, 76, 77, 78, 79, 80, 81, 82, 83, 84, 85, 86, 87, 88, 89, 90, 91, 92, 93, 94, 95, 96, 97, 98, 99, 100, 101, 102, 103] (⟨0, Ow.nil⟩) (⟨by omega, by simpa [hdrs] using Ow.nil_ok⟩) ⟨rfl, rfl, trivial⟩ rfl rfl ?_
    rintro ⟨k, o2⟩ g1 hI1
    try dsimp only at hI1 ⊢
    refine c_seq ?_
    refine c_seq ?_
    refine c_reg ?_
    refine mv (.int _ _) rfl ?_
    refine mv (.slice _ _ _) rfl ?_
    refine lenS rfl Try.underlying22 ?_
    refine cmp _ rfl rfl rfl ?_
    refine jt ?_
    refine c_cond rfl (fun h2 => ?_) (fun h2 => ?_)
    · replace h2 := of_decide_eq_true h2
      refine c_skip ?_
      refine e_then ?_
      refine c_seq ?_
      refine c_block ?_
      refine c_seq ?_
      refine c_reg ?_
      refine asg (.bool _) rfl ?_
      refine jt ?_
      refine c_seq ?_
      refine c_seq ?_
      refine c_reg ?_
      refine asg (.int _ _) rfl ?_
      refine jt ?_
      refine c_block ?_
      refine c_loop (σ := Nat) (fun j => j ≤ k) (fun j => k - j) (fun j => [(9, .int .i64 (j : Int)), (8, .bool (sn l k j))]) (fun j => [o13.seg l 33, o2.seg (hdrs (l.take k)) 30]) (fun j => [[(bs, .cells (cat [p1 (.int .i64 most), p1 (.map (some m)), p1 (.slice o.adr (List.map plc l).length o.cap)]) 76)], [(m, .pred (isMap (List.map skv l)))], o.seg (List.map plc l) 72]) [4, 8, 9, 40, 41, 42, 43, 44, 45, 46, 47, 48, 49, 50, 51, 52, 53, 54, 55, 56, 57, 58, 59, 60, 61, 62, 63, 64, 65, 66, 67] 0 (by omega) ⟨rfl, (by rw [sn_zero]; rfl), trivial⟩ rfl rfl ?_
      rintro j g2 hI2
      try dsimp only at hI2 ⊢
      refine c_seq ?_
      refine c_seq ?_
      refine c_reg ?_
      refine mv (.int _ _) rfl ?_
      refine mv (.int _ _) rfl ?_
      refine cmp _ rfl rfl rfl ?_
      refine jt ?_
      refine c_cond rfl (fun h3 => ?_) (fun h3 => ?_)
      · replace h3 := of_decide_eq_true h3
        refine c_skip ?_
        refine e_then ?_
        refine c_seq ?_
        refine c_block ?_
        refine c_seq ?_
        refine c_seq ?_
        refine c_dr [_, _, _, _, _] [] [(0, 0), (1, 0), (2, 0), (3, 0), (4, 0), (5, 0), (6, 0), (7, 0), (8, 1)] follows (by kernel_rfl) calm_body (keepS [0, 1, 2, 3, 4] rfl) ?_
        refine mv (.slice _ _ _) rfl ?_
        refine mv (.int _ _) rfl ?_
        refine ixs ((o13).vs) l k (Ow.vs_ok ho13) rfl rfl rfl Try.underlying22 ty33.sz rfl (by first | omega | (simp; done) | (simp; omega) | (simp at *; omega)) ?_
        refine ldso 0 _ ho13 rfl rfl rfl rfl (by first | omega | (simp; done) | (simp; omega) | (simp at *; omega)) ty33 ?_
        refine mv (.slice _ _ _) rfl ?_
        refine mv (.int _ _) rfl ?_
        refine ixs ((o13).vs) l j (Ow.vs_ok ho13) rfl rfl rfl Try.underlying22 ty33.sz rfl (by first | omega | (simp; done) | (simp; omega) | (simp at *; omega)) ?_
        refine ldso 0 _ ho13 rfl rfl rfl rfl (by first | omega | (simp; done) | (simp; omega) | (simp at *; omega)) ty33 ?_
        refine cal (meet_ct (l[k]) (l[j])) [] [0, 1] [_, _] rfl rfl rfl (by kernel_rfl) impl_nil rfl ?_; rintro _ _ _ ⟨rfl, rfl, rfl⟩; refine ⟨keepI [0, 1, 2, 3, 4] rfl, ?_⟩
        refine jt ?_
        refine c_cond rfl (fun h4 => ?_) (fun h4 => ?_)
        · refine c_seq ?_
          refine c_reg ?_
          refine asg (.bool _) rfl ?_
          refine jt ?_
          refine c_ret ?_
          exact j_end (own0 := []) (ro0 := [[(bs, .cells (cat [p1 (.int .i64 most), p1 (.map (some m)), p1 (.slice o.adr (List.map plc l).length o.cap)]) 76)], [(m, .pred (isMap (List.map skv l)))], o.seg (List.map plc l) 72]) (.inl rfl) rfl (hr1 Try.results22 (rvt (v := (.bool _)) rfl)) [] [0, 1] [] [_, _] [] _ rfl rfl (by kernel_rfl) rfl impl_nil (absurd (show meets l[k] l[j] = true by assumption) (no_meet hnd (show k < l.length by omega) (show j < k by omega)))
        · refine c_skip ?_
          refine e_then ?_
          refine c_dr [_, _, _, _, _] [] [(0, 0), (1, 0), (2, 0), (3, 0), (4, 0), (5, 0), (6, 0), (7, 0), (8, 0), (9, 0), (10, 0), (11, 0), (12, 0), (13, 0), (14, 0)] follows (by kernel_rfl) calm_body (keepS [0, 1, 2, 3, 4] rfl) ?_
          refine mv (.bool _) rfl ?_
          refine mv (.bool _) rfl ?_
          refine jsplit 55 rfl (fun h5 => ?_) (fun h5 => ?_)
          · refine g_off rfl rfl rfl rfl ?_
            refine g_off rfl rfl rfl rfl ?_
            refine g_off rfl rfl rfl rfl ?_
            refine g_off rfl rfl rfl rfl ?_
            refine g_off rfl rfl rfl rfl ?_
            refine g_off rfl rfl rfl rfl ?_
            refine g_off rfl rfl rfl rfl ?_
            refine g_off rfl rfl rfl rfl ?_
            refine g_off rfl rfl rfl rfl ?_
            refine g_off rfl rfl rfl rfl ?_
            refine g_off rfl rfl rfl rfl ?_
            refine pkt (.bool _) rfl rfl ?_
            refine asg (.bool _) rfl ?_
            refine jn ?_
            refine e_in ?_
            refine e_then ?_
            refine c_reg ?_
            refine mv (.int _ _) rfl ?_
            refine addi rfl rfl rfl (by omega) ?_
            refine asg (.int _ _) rfl ?_
            refine jn ?_
            exact e_loop (j + 1) (by omega) (by (try dsimp only); omega) (⟨rfl, congrArg Value.bool (by rw [sn_next (show k < l.length by omega) (show j < l.length by omega)]; simp [*]), trivial⟩) rfl rfl rfl
          · refine g_on rfl rfl rfl ?_
            refine mv (.slice _ _ _) rfl ?_
            refine g_on rfl rfl rfl ?_
            refine mv (.int _ _) rfl ?_
            refine g_on rfl rfl rfl ?_
            refine ixs ((o13).vs) l j (Ow.vs_ok ho13) rfl rfl rfl Try.underlying22 ty33.sz rfl (by first | omega | (simp; done) | (simp; omega) | (simp at *; omega)) ?_
            refine g_on rfl rfl rfl ?_
            refine fad rfl Try.underlying33 rfl ty30.sz ?_
            refine g_on rfl rfl rfl ?_
            refine ldsof 0 _ 0 ho13 rfl rfl rfl (by first | omega | (simp; done) | (simp; omega) | (simp at *; omega)) rfl rfl ty30 ?_
            refine g_on rfl rfl rfl ?_
            refine mv (.slice _ _ _) rfl ?_
            refine g_on rfl rfl rfl ?_
            refine mv (.int _ _) rfl ?_
            refine g_on rfl rfl rfl ?_
            refine ixs ((o13).vs) l k (Ow.vs_ok ho13) rfl rfl rfl Try.underlying22 ty33.sz rfl (by first | omega | (simp; done) | (simp; omega) | (simp at *; omega)) ?_
            refine g_on rfl rfl rfl ?_
            refine fad rfl Try.underlying33 rfl ty30.sz ?_
            refine g_on rfl rfl rfl ?_
            refine ldsof 0 _ 0 ho13 rfl rfl rfl (by first | omega | (simp; done) | (simp; omega) | (simp at *; omega)) rfl rfl ty30 ?_
            refine g_on rfl rfl rfl ?_
            refine eqA (l[j].header) (l[k].header) _ rfl rfl rfl rfl eq30 rfl Try.eqGuardType30 rfl ?_
            refine pkf (.bool _) rfl rfl ?_
            refine asg (.bool _) rfl ?_
            refine jn ?_
            refine e_in ?_
            refine e_then ?_
            refine c_reg ?_
            refine mv (.int _ _) rfl ?_
            refine addi rfl rfl rfl (by omega) ?_
            refine asg (.int _ _) rfl ?_
            refine jn ?_
            exact e_loop (j + 1) (by omega) (by (try dsimp only); omega) (⟨rfl, congrArg Value.bool (by rw [sn_next (show k < l.length by omega) (show j < l.length by omega)]; simp [*]), trivial⟩) rfl rfl rfl
      · replace h3 := of_decide_eq_false h3
        refine c_exit rfl ?_
        refine e_then ?_
        refine c_seq ?_
        refine c_seq ?_
        refine c_reg ?_
        refine mv (.bool _) rfl ?_
        refine not_ rfl ?_
        skip
        refine jt ?_
        refine c_cond rfl (fun h6 => ?_) (fun h6 => ?_)
        · refine c_reg ?_
          refine mv (.slice _ _ _) rfl ?_
          refine mv (.slice _ _ _) rfl ?_
          refine mv (.int _ _) rfl ?_
          refine ixs ((o13).vs) l k (Ow.vs_ok ho13) rfl rfl rfl Try.underlying22 ty33.sz rfl (by first | omega | (simp; done) | (simp; omega) | (simp at *; omega)) ?_
          refine fad rfl Try.underlying33 rfl ty30.sz ?_
          refine ldsof 0 _ 0 ho13 rfl rfl rfl (by first | omega | (simp; done) | (simp; omega) | (simp at *; omega)) rfl rfl ty30 ?_
          refine bsl (α := Key) ([l[k].header]) Try.underlying77 ty30.sz rfl (by decide) z30 rfl fun b76 => ⟨trivial, ?_⟩
          refine app 1 o2 (hdrs (l.take k)) ([l[k].header] : List Key) hI1.2 rfl ⟨rfl, rfl, rfl⟩ rfl rfl (gives_own (ys := ([l[k].header] : List Key)) (pre := []) (post := []) 2 rfl (by simp) rfl) Try.underlying77 Try.underlying77 (.inl ⟨_, rfl⟩) ty30.sz by30 z30 rfl (by have := hdrs_le (l.take k); simp at this ⊢; omega) rfl fun o77_1 hk77_1 => ⟨trivial, ?_⟩
          refine asg (.slice _ _ _) rfl ?_
          refine jt ?_
          refine c_seq ?_
          refine c_drT [_, _, _, _, _, _] [] (PT.of [(0, 0), (1, 0), (2, 0), (3, 0), (4, 0), (5, 0), (6, 0), (7, 0), (8, 0), (9, 0), (10, 0)] (.alt (PT.of [(11, 1), (12, 0), (13, 0), (14, 0), (15, 1), (16, 1), (17, 0)] .leaf) (PT.of [(15, 1), (11, 1), (12, 0), (13, 0), (14, 0), (16, 1), (17, 0)] .leaf))) follows (by kernel_rfl) calm_body (keepS [0, 1, 2, 3, 4, 5] rfl) ?_
          refine jt_of [(0, 0), (1, 0), (2, 0), (3, 0), (4, 0), (5, 0), (6, 0), (7, 0), (8, 0), (9, 0), (10, 0)] ?_
          refine mv (.pointer _) rfl ?_
          refine mv (.slice _ _ _) rfl ?_
          refine mv (.int _ _) rfl ?_
          refine ixs ((o13).vs) l k (Ow.vs_ok ho13) rfl rfl rfl Try.underlying22 ty33.sz rfl (by first | omega | (simp; done) | (simp; omega) | (simp at *; omega)) ?_
          refine fad rfl Try.underlying33 rfl ty30.sz ?_
          refine ldsof 0 _ 0 ho13 rfl rfl rfl (by first | omega | (simp; done) | (simp; omega) | (simp at *; omega)) rfl rfl ty30 ?_
          refine mv (.slice _ _ _) rfl ?_
          refine mv (.int _ _) rfl ?_
          refine ixs ((o13).vs) l k (Ow.vs_ok ho13) rfl rfl rfl Try.underlying22 ty33.sz rfl (by first | omega | (simp; done) | (simp; omega) | (simp at *; omega)) ?_
          refine fad rfl Try.underlying33 rfl ty31.sz ?_
          refine ldsof 0 _ 1 ho13 rfl rfl rfl (by first | omega | (simp; done) | (simp; omega) | (simp at *; omega)) rfl rfl ty31 ?_
          refine j_alt (keepS [0, 1, 2, 3, 4, 5] rfl) ?_
          refine jt_alt ?_ ?_
          · refine jt_fin [(11, 1), (12, 0), (13, 0), (14, 0), (15, 1), (16, 1), (17, 0)] ?_
            refine cal (Find_is bs m o most l ho (l[k].header) (l[k].n) (z := some l[k].message) (k := l[k].message) (f := true) (found_at hnd (show k < l.length by omega)) rfl rfl) [] [0, 1, 2] [_, _, _] rfl rfl rfl (by kernel_rfl) (impl_cons (impl_at 0 rfl) (impl_cons (impl_at 1 rfl) (impl_cons (impl_at 2 rfl) impl_nil))) rfl ?_; rintro _ _ _ ⟨rfl, rfl, rfl⟩; refine ⟨keepI [0, 1, 2, 3, 4, 5] rfl, ?_⟩
            refine mv (.tuple _) rfl ?_
            refine xtr (.agg _) rfl rfl ?_
            refine xtr (.bool _) rfl rfl ?_
            refine alo [pt (zarr : Key)] _ z30 rfl fun b10 => ⟨keepI [0, 1, 2, 4, 5, 6] rfl, ?_⟩
            refine stw 3 _ [pt (l[k].message)] rfl rfl rfl rfl ty30 ⟨keepI [0, 1, 2, 4, 5, 6] rfl, ?_⟩
            refine asg (.bool _) rfl ?_
            refine jt ?_
            refine c_seq ?_
            refine c_dr [_, _, _, _, _, _, _] [] [(0, 0), (1, 0), (2, 0), (3, 0), (4, 0), (5, 0), (6, 0), (7, 0), (8, 0), (9, 0), (10, 0)] follows (by kernel_rfl) calm_body (keepS [0, 1, 2, 3, 4, 5, 6] rfl) ?_
            refine mv (.bool _) rfl ?_
            refine not_ rfl ?_
            refine mv (.bool _) rfl ?_
            refine g_on rfl rfl rfl ?_
            refine ldp 3 0 _ rfl rfl rfl rfl ty30 ?_
            refine g_on rfl rfl rfl ?_
            refine mv (.slice _ _ _) rfl ?_
            refine g_on rfl rfl rfl ?_
            refine mv (.int _ _) rfl ?_
            refine g_on rfl rfl rfl ?_
            refine ixs ((o13).vs) l k (Ow.vs_ok ho13) rfl rfl rfl Try.underlying22 ty33.sz rfl (by first | omega | (simp; done) | (simp; omega) | (simp at *; omega)) ?_
            refine g_on rfl rfl rfl ?_
            refine fad rfl Try.underlying33 rfl ty30.sz ?_
            refine g_on rfl rfl rfl ?_
            refine ldsof 0 _ 2 ho13 rfl rfl rfl (by first | omega | (simp; done) | (simp; omega) | (simp at *; omega)) rfl rfl ty30 ?_
            refine g_on rfl rfl rfl ?_
            refine eqA (l[k].message) (l[k].message) false rfl rfl rfl rfl eq30 rfl Try.eqGuardType30 (by simp) ?_
            refine pkf (.bool _) rfl rfl ?_
            refine jt ?_
            refine c_false rfl ?_
            refine c_skip ?_
            refine e_in ?_
            refine e_then ?_
            refine c_reg ?_
            refine mv (.int _ _) rfl ?_
            refine addi rfl rfl rfl (by omega) ?_
            refine asg (.int _ _) rfl ?_
            refine jn ?_
            refine e_keep [0, 1] [2, 3] [_, _] rfl (by kernel_rfl) ?_
            have hhn := hdrs_new2 (show k < l.length by omega) (show k ≤ j by omega) h6 (show j ≤ k by omega)
            rw [← hhn] at hk77_1
            exact e_lp (⟨k + 1, o77_1⟩ : Nat × Ow) (by repeat (first | exact out_self | refine out_hav (by kernel_rfl) ?_ | refine out_look (by kernel_rfl) ?_)) (⟨by omega, hk77_1⟩) (by (try dsimp only); omega) (by simp only [hhn]; exact ⟨rfl, rfl, trivial⟩) rfl (by simp only [hhn] <;> rfl) rfl
          · refine jt_fin [(15, 1), (11, 1), (12, 0), (13, 0), (14, 0), (16, 1), (17, 0)] ?_
            refine alo [pt (zarr : Key)] _ z30 rfl fun b10 => ⟨keepI [0, 1, 2, 4, 5, 6] rfl, ?_⟩
            refine cal (Find_is bs m o most l ho (l[k].header) (l[k].n) (z := some l[k].message) (k := l[k].message) (f := true) (found_at hnd (show k < l.length by omega)) rfl rfl) [] [0, 1, 2, 3] [_, _, _, _] rfl rfl rfl (by kernel_rfl) (impl_cons (impl_at 0 rfl) (impl_cons (impl_at 1 rfl) (impl_cons (impl_at 2 rfl) impl_nil))) rfl ?_; rintro _ _ _ ⟨rfl, rfl, rfl⟩; refine ⟨keepI [0, 1, 2, 4, 5, 6] rfl, ?_⟩
            refine mv (.tuple _) rfl ?_
            refine xtr (.agg _) rfl rfl ?_
            refine xtr (.bool _) rfl rfl ?_
            refine stw 3 _ [pt (l[k].message)] rfl rfl rfl rfl ty30 ⟨keepI [0, 1, 2, 4, 5, 6] rfl, ?_⟩
            refine asg (.bool _) rfl ?_
            refine jt ?_
            refine c_seq ?_
            refine c_dr [_, _, _, _, _, _, _] [] [(0, 0), (1, 0), (2, 0), (3, 0), (4, 0), (5, 0), (6, 0), (7, 0), (8, 0), (9, 0), (10, 0)] follows (by kernel_rfl) calm_body (keepS [0, 1, 2, 3, 4, 5, 6] rfl) ?_
            refine mv (.bool _) rfl ?_
            refine not_ rfl ?_
            refine mv (.bool _) rfl ?_
            refine g_on rfl rfl rfl ?_
            refine ldp 3 0 _ rfl rfl rfl rfl ty30 ?_
            refine g_on rfl rfl rfl ?_
            refine mv (.slice _ _ _) rfl ?_
            refine g_on rfl rfl rfl ?_
            refine mv (.int _ _) rfl ?_
            refine g_on rfl rfl rfl ?_
            refine ixs ((o13).vs) l k (Ow.vs_ok ho13) rfl rfl rfl Try.underlying22 ty33.sz rfl (by first | omega | (simp; done) | (simp; omega) | (simp at *; omega)) ?_
            refine g_on rfl rfl rfl ?_
            refine fad rfl Try.underlying33 rfl ty30.sz ?_
            refine g_on rfl rfl rfl ?_
            refine ldsof 0 _ 2 ho13 rfl rfl rfl (by first | omega | (simp; done) | (simp; omega) | (simp at *; omega)) rfl rfl ty30 ?_
            refine g_on rfl rfl rfl ?_
            refine eqA (l[k].message) (l[k].message) false rfl rfl rfl rfl eq30 rfl Try.eqGuardType30 (by simp) ?_
            refine pkf (.bool _) rfl rfl ?_
            refine jt ?_
            refine c_false rfl ?_
            refine c_skip ?_
            refine e_in ?_
            refine e_then ?_
            refine c_reg ?_
            refine mv (.int _ _) rfl ?_
            refine addi rfl rfl rfl (by omega) ?_
            refine asg (.int _ _) rfl ?_
            refine jn ?_
            refine e_keep [0, 1] [2, 3] [_, _] rfl (by kernel_rfl) ?_
            have hhn := hdrs_new2 (show k < l.length by omega) (show k ≤ j by omega) h6 (show j ≤ k by omega)
            rw [← hhn] at hk77_1
            exact e_lp (⟨k + 1, o77_1⟩ : Nat × Ow) (by repeat (first | exact out_self | refine out_hav (by kernel_rfl) ?_ | refine out_look (by kernel_rfl) ?_)) (⟨by omega, hk77_1⟩) (by (try dsimp only); omega) (by simp only [hhn]; exact ⟨rfl, rfl, trivial⟩) rfl (by simp only [hhn] <;> rfl) rfl
        · refine c_skip ?_
          refine e_then ?_
          refine c_seq ?_
          refine c_drT [_, _, _, _, _] [] (PT.of [(0, 0), (1, 0), (2, 0), (3, 0), (4, 0), (5, 0), (6, 0), (7, 0), (8, 0), (9, 0), (10, 0)] (.alt (PT.of [(11, 1), (12, 0), (13, 0), (14, 0), (15, 1), (16, 1), (17, 0)] .leaf) (PT.of [(15, 1), (11, 1), (12, 0), (13, 0), (14, 0), (16, 1), (17, 0)] .leaf))) follows (by kernel_rfl) calm_body (keepS [0, 1, 2, 3, 4] rfl) ?_
          refine jt_of [(0, 0), (1, 0), (2, 0), (3, 0), (4, 0), (5, 0), (6, 0), (7, 0), (8, 0), (9, 0), (10, 0)] ?_
          refine mv (.pointer _) rfl ?_
          refine mv (.slice _ _ _) rfl ?_
          refine mv (.int _ _) rfl ?_
          refine ixs ((o13).vs) l k (Ow.vs_ok ho13) rfl rfl rfl Try.underlying22 ty33.sz rfl (by first | omega | (simp; done) | (simp; omega) | (simp at *; omega)) ?_
          refine fad rfl Try.underlying33 rfl ty30.sz ?_
          refine ldsof 0 _ 0 ho13 rfl rfl rfl (by first | omega | (simp; done) | (simp; omega) | (simp at *; omega)) rfl rfl ty30 ?_
          refine mv (.slice _ _ _) rfl ?_
          refine mv (.int _ _) rfl ?_
          refine ixs ((o13).vs) l k (Ow.vs_ok ho13) rfl rfl rfl Try.underlying22 ty33.sz rfl (by first | omega | (simp; done) | (simp; omega) | (simp at *; omega)) ?_
          refine fad rfl Try.underlying33 rfl ty31.sz ?_
          refine ldsof 0 _ 1 ho13 rfl rfl rfl (by first | omega | (simp; done) | (simp; omega) | (simp at *; omega)) rfl rfl ty31 ?_
          refine j_alt (keepS [0, 1, 2, 3, 4] rfl) ?_
          refine jt_alt ?_ ?_
          · refine jt_fin [(11, 1), (12, 0), (13, 0), (14, 0), (15, 1), (16, 1), (17, 0)] ?_
            refine cal (Find_is bs m o most l ho (l[k].header) (l[k].n) (z := some l[k].message) (k := l[k].message) (f := true) (found_at hnd (show k < l.length by omega)) rfl rfl) [] [0, 1] [_, _] rfl rfl rfl (by kernel_rfl) (impl_cons (impl_at 0 rfl) (impl_cons (impl_at 1 rfl) (impl_cons (impl_at 2 rfl) impl_nil))) rfl ?_; rintro _ _ _ ⟨rfl, rfl, rfl⟩; refine ⟨keepI [0, 1, 2, 3, 4] rfl, ?_⟩
            refine mv (.tuple _) rfl ?_
            refine xtr (.agg _) rfl rfl ?_
            refine xtr (.bool _) rfl rfl ?_
            refine alo [pt (zarr : Key)] _ z30 rfl fun b10 => ⟨keepI [0, 1, 3, 4, 5] rfl, ?_⟩
            refine stw 2 _ [pt (l[k].message)] rfl rfl rfl rfl ty30 ⟨keepI [0, 1, 3, 4, 5] rfl, ?_⟩
            refine asg (.bool _) rfl ?_
            refine jt ?_
            refine c_seq ?_
            refine c_dr [_, _, _, _, _, _] [] [(0, 0), (1, 0), (2, 0), (3, 0), (4, 0), (5, 0), (6, 0), (7, 0), (8, 0), (9, 0), (10, 0)] follows (by kernel_rfl) calm_body (keepS [0, 1, 2, 3, 4, 5] rfl) ?_
            refine mv (.bool _) rfl ?_
            refine not_ rfl ?_
            refine mv (.bool _) rfl ?_
            refine g_on rfl rfl rfl ?_
            refine ldp 2 0 _ rfl rfl rfl rfl ty30 ?_
            refine g_on rfl rfl rfl ?_
            refine mv (.slice _ _ _) rfl ?_
            refine g_on rfl rfl rfl ?_
            refine mv (.int _ _) rfl ?_
            refine g_on rfl rfl rfl ?_
            refine ixs ((o13).vs) l k (Ow.vs_ok ho13) rfl rfl rfl Try.underlying22 ty33.sz rfl (by first | omega | (simp; done) | (simp; omega) | (simp at *; omega)) ?_
            refine g_on rfl rfl rfl ?_
            refine fad rfl Try.underlying33 rfl ty30.sz ?_
            refine g_on rfl rfl rfl ?_
            refine ldsof 0 _ 2 ho13 rfl rfl rfl (by first | omega | (simp; done) | (simp; omega) | (simp at *; omega)) rfl rfl ty30 ?_
            refine g_on rfl rfl rfl ?_
            refine eqA (l[k].message) (l[k].message) false rfl rfl rfl rfl eq30 rfl Try.eqGuardType30 (by simp) ?_
            refine pkf (.bool _) rfl rfl ?_
            refine jt ?_
            refine c_false rfl ?_
            refine c_skip ?_
            refine e_in ?_
            refine e_then ?_
            refine c_reg ?_
            refine mv (.int _ _) rfl ?_
            refine addi rfl rfl rfl (by omega) ?_
            refine asg (.int _ _) rfl ?_
            refine jn ?_
            refine e_keep [0, 1] [2] [_, _] rfl (by kernel_rfl) ?_
            have hhn := hdrs_old2 (show k < l.length by omega) (show k ≤ j by omega) h6 (show j ≤ k by omega)
            have hok2 := hI1.2
            rw [← hhn] at hok2
            exact e_lp (⟨k + 1, o2⟩ : Nat × Ow) (by repeat (first | exact out_self | refine out_hav (by kernel_rfl) ?_ | refine out_look (by kernel_rfl) ?_)) (⟨by omega, hok2⟩) (by (try dsimp only); omega) (by simp only [hhn]; exact ⟨rfl, rfl, trivial⟩) rfl (by simp only [hhn] <;> rfl) rfl
          · refine jt_fin [(15, 1), (11, 1), (12, 0), (13, 0), (14, 0), (16, 1), (17, 0)] ?_
            refine alo [pt (zarr : Key)] _ z30 rfl fun b10 => ⟨keepI [0, 1, 3, 4, 5] rfl, ?_⟩
            refine cal (Find_is bs m o most l ho (l[k].header) (l[k].n) (z := some l[k].message) (k := l[k].message) (f := true) (found_at hnd (show k < l.length by omega)) rfl rfl) [] [0, 1, 2] [_, _, _] rfl rfl rfl (by kernel_rfl) (impl_cons (impl_at 0 rfl) (impl_cons (impl_at 1 rfl) (impl_cons (impl_at 2 rfl) impl_nil))) rfl ?_; rintro _ _ _ ⟨rfl, rfl, rfl⟩; refine ⟨keepI [0, 1, 3, 4, 5] rfl, ?_⟩
            refine mv (.tuple _) rfl ?_
            refine xtr (.agg _) rfl rfl ?_
            refine xtr (.bool _) rfl rfl ?_
            refine stw 2 _ [pt (l[k].message)] rfl rfl rfl rfl ty30 ⟨keepI [0, 1, 3, 4, 5] rfl, ?_⟩
            refine asg (.bool _) rfl ?_
            refine jt ?_
            refine c_seq ?_
            refine c_dr [_, _, _, _, _, _] [] [(0, 0), (1, 0), (2, 0), (3, 0), (4, 0), (5, 0), (6, 0), (7, 0), (8, 0), (9, 0), (10, 0)] follows (by kernel_rfl) calm_body (keepS [0, 1, 2, 3, 4, 5] rfl) ?_
            refine mv (.bool _) rfl ?_
            refine not_ rfl ?_
            refine mv (.bool _) rfl ?_
            refine g_on rfl rfl rfl ?_
            refine ldp 2 0 _ rfl rfl rfl rfl ty30 ?_
            refine g_on rfl rfl rfl ?_
            refine mv (.slice _ _ _) rfl ?_
            refine g_on rfl rfl rfl ?_
            refine mv (.int _ _) rfl ?_
            refine g_on rfl rfl rfl ?_
            refine ixs ((o13).vs) l k (Ow.vs_ok ho13) rfl rfl rfl Try.underlying22 ty33.sz rfl (by first | omega | (simp; done) | (simp; omega) | (simp at *; omega)) ?_
            refine g_on rfl rfl rfl ?_
            refine fad rfl Try.underlying33 rfl ty30.sz ?_
            refine g_on rfl rfl rfl ?_
            refine ldsof 0 _ 2 ho13 rfl rfl rfl (by first | omega | (simp; done) | (simp; omega) | (simp at *; omega)) rfl rfl ty30 ?_
            refine g_on rfl rfl rfl ?_
            refine eqA (l[k].message) (l[k].message) false rfl rfl rfl rfl eq30 rfl Try.eqGuardType30 (by simp) ?_
            refine pkf (.bool _) rfl rfl ?_
            refine jt ?_
            refine c_false rfl ?_
            refine c_skip ?_
            refine e_in ?_
            refine e_then ?_
            refine c_reg ?_
            refine mv (.int _ _) rfl ?_
            refine addi rfl rfl rfl (by omega) ?_
            refine asg (.int _ _) rfl ?_
            refine jn ?_
            refine e_keep [0, 1] [2] [_, _] rfl (by kernel_rfl) ?_
            have hhn := hdrs_old2 (show k < l.length by omega) (show k ≤ j by omega) h6 (show j ≤ k by omega)
            have hok2 := hI1.2
            rw [← hhn] at hok2
            exact e_lp (⟨k + 1, o2⟩ : Nat × Ow) (by repeat (first | exact out_self | refine out_hav (by kernel_rfl) ?_ | refine out_look (by kernel_rfl) ?_)) (⟨by omega, hok2⟩) (by (try dsimp only); omega) (by simp only [hhn]; exact ⟨rfl, rfl, trivial⟩) rfl (by simp only [hhn] <;> rfl) rfl
    · replace h2 := of_decide_eq_false h2
      refine c_exit rfl ?_
      refine e_then ?_
      refine c_seq ?_
      refine c_reg ?_
      refine mv (.slice _ _ _) rfl ?_
      refine mv (.pointer _) rfl ?_
      refine cal (Headers_ct bs m o most l ho (by omega)) [] [0, 1] [_, _] rfl rfl rfl (by kernel_rfl) (impl_cons (impl_at 0 rfl) (impl_cons (impl_at 1 rfl) (impl_cons (impl_at 2 rfl) impl_nil))) rfl ?_; rintro _ _ _ ⟨o106, ho106, rfl, rfl, rfl⟩; refine ⟨trivial, ?_⟩
      refine cal (sameKeys_ct ((o2).vs) ((o106).vs) (hdrs (l.take k)) (hdrs l) (Ow.vs_ok hI1.2) (Ow.vs_ok ho106) (by have := hdrs_le (l.take k); simp at this; omega)) [] [0, 1, 2] [_, _, _] rfl rfl rfl (by kernel_rfl) (impl_cons (ow_impl 4 rfl) (impl_cons (ow_impl 5 rfl) impl_nil)) rfl ?_; rintro _ _ _ ⟨rfl, rfl, rfl⟩; refine ⟨trivial, ?_⟩
      skip
      refine asg (.bool _) rfl ?_
      refine jt ?_
      refine c_ret ?_
      exact j_end (own0 := []) (ro0 := [[(bs, .cells (cat [p1 (.int .i64 most), p1 (.map (some m)), p1 (.slice o.adr (List.map plc l).length o.cap)]) 76)], [(m, .pred (isMap (List.map skv l)))], o.seg (List.map plc l) 72]) (.inl rfl) rfl (hr1 Try.results22 (rvt (v := (.bool _)) rfl)) [] [0, 1, 2] [] [_, _, _] [] _ rfl rfl (by kernel_rfl) rfl impl_nil (⟨by rw [List.take_of_length_le (show l.length ≤ k by omega)]; simp, rfl, rfl⟩)
end Go.Proofs.Ytacfjmjcgolhfaa
