/- Contracts of the program's functions, walked. No condition. -/
import Derived.Test.YtacfjmjcgolhfaaA18
namespace Go.Proofs.Ytacfjmjcgolhfaa
open Go Go.Proofs Go.PW
open Go.PW.Enc (enc val)

theorem From_is (most : Int) (s : Vs) (xs : List Spare) (hs : s.ok xs) (hx : xs.length ≤ 9223372036854775806) (h : fromE most xs = 0) : Ct Try.prog 10 [.int .i64 most, s.v xs.length] [] [s.seg xs] (fun v w r => ∃ (bs m : Nat) (o' : Ow), o'.ok (List.map plc xs) ∧ v = .tuple #[.pointer (some ⟨bs, 0, none⟩), .int .i64 0] ∧ w = [[(bs, .cells (cat [p1 (.int .i64 most), p1 (.map (some m)), p1 (.slice o'.adr (List.map plc xs).length o'.cap)]) 76)], [(m, .pred (isMap (List.map skv xs)))], o'.seg (List.map plc xs) 72] ∧ r = []) :=
  (From_ct most s xs hs hx).mono fun v w r h2 => h2.elim (fun h3 => h3.2) (fun h3 => absurd h h3.1)
theorem Forget_all (bs m : Nat) (o : Ow) (most : Int) (l : List Spare) (ho : o.ok (List.map plc l)) (hl : l.length ≤ 2000) (n : Int) (hn : (l.length : Int) ≤ n) : Ct Try.prog 21 [.pointer (some ⟨bs, 0, none⟩), .int .i64 n] [[(bs, .cells (cat [p1 (.int .i64 most), p1 (.map (some m)), p1 (.slice o.adr (List.map plc l).length o.cap)]) 76)], [(m, .pred (isMap (List.map skv l)))], o.seg (List.map plc l) 72] [] (fun v w r => ∃ o' : Ow, o'.ok (List.map plc ([] : List Spare)) ∧ v = .int .i64 (l.length : Int) ∧ w = [[(bs, .cells (cat [p1 (.int .i64 most), p1 (.map (some m)), p1 (.slice o'.adr (List.map plc ([] : List Spare)).length o'.cap)]) 76)], [(m, .pred (isMap (List.map skv ([] : List Spare))))], o'.seg (List.map plc ([] : List Spare)) 72] ∧ r = []) := by
  have e : fg n l = l.length := by unfold fg; omega
  have h := Forget_ct bs m o most l ho hl n
  rw [e, List.drop_length] at h
  exact h

set_option maxRecDepth 20000 in
set_option maxHeartbeats 4000000 in
theorem Again_ct (most : Int) (s : Vs) (l : List Spare) (hs : s.ok l) (hl : l.length ≤ 2199023255552) (t : Vs) (sc : List OpR) (ht : t.ok sc) (hops : ∀ o ∈ sc, o.s.ok o.l ∧ o.l.length ≤ 2199023255552) (hsc : sc.length ≤ 2199023255552) : Ct Try.prog 7 [.int .i64 most, s.v l.length, t.v sc.length] [] [s.seg l, t.seg sc, opsSeg sc] (fun v w r => v = .bool true ∧ w = [] ∧ r = []) := by
  refine ct_enter Try.func7 rfl Try.ntmps7 (by kernel_rfl) rfl fun w0 => ?_
  refine c_seq ?_
  refine c_reg ?_
  refine asg (.bool _) rfl ?_
  refine jt ?_
  refine c_seq ?_
  refine c_seq ?_
  refine c_reg ?_
  refine cal lives_ct [] [] [] rfl rfl rfl (by kernel_rfl) impl_nil rfl ?_; rintro _ _ _ ⟨rfl, rfl, rfl⟩; refine ⟨trivial, ?_⟩
  refine not_ rfl ?_
  refine jt ?_
  refine c_false rfl ?_
  refine c_skip ?_
  refine e_then ?_
  refine c_seq ?_
  refine c_reg ?_
  refine mv (.int _ _) rfl ?_
  refine mv (.slice _ _ _) rfl ?_
  refine cal (From_ct most s l hs (by omega)) [] [] [] rfl rfl rfl (by kernel_rfl) (impl_cons (impl_at 0 rfl) impl_nil) rfl ?_; rintro _ _ _ (⟨hF28, bs28, m28, o28, ho28, rfl, rfl, rfl⟩ | ⟨hF28, rfl, rfl, rfl⟩)
  · have hf28 := from_facts hF28; refine ⟨trivial, ?_⟩
    refine mv (.tuple _) rfl ?_
    refine xtr (.pointer _) rfl rfl ?_
    refine xtr (.int _ _) rfl rfl ?_
    refine asg (.pointer _) rfl ?_
    refine asg (.int _ _) rfl ?_
    refine jt ?_
    refine c_seq ?_
    refine c_seq ?_
    refine c_reg ?_
    refine mv (.int _ _) rfl ?_
    refine cmp false rfl rfl rfl ?_
    refine jt ?_
    refine c_false rfl ?_
    refine c_skip ?_
    refine e_then ?_
    refine c_seq ?_
    refine c_reg ?_
    refine mv (.pointer _) rfl ?_
    refine cal (Clone_ct bs28 m28 o28 most l ho28 (by omega)) [] [0, 1, 2] [_, _, _] rfl rfl rfl (by kernel_rfl) (impl_cons (impl_at 3 rfl) (impl_cons (impl_at 4 rfl) (impl_cons (impl_at 5 rfl) impl_nil))) rfl ?_; rintro _ _ _ ⟨bs34, m34, o34, ho34, rfl, rfl, rfl⟩; refine ⟨trivial, ?_⟩
    refine asg (.pointer _) rfl ?_
    refine jt ?_
    refine c_seq ?_
    refine c_reg ?_
    refine mv (.int _ _) rfl ?_
    refine mv (.pointer _) rfl ?_
    refine cal (List_ct bs28 m28 o28 most l ho28 (by omega) hf28.2.1) [] [0, 1, 2, 3, 4, 5] [_, _, _, _, _, _] rfl rfl rfl (by kernel_rfl) (impl_cons (impl_at 3 rfl) (impl_cons (impl_at 4 rfl) (impl_cons (impl_at 5 rfl) impl_nil))) rfl ?_; rintro _ _ _ ⟨o38, ho38, rfl, rfl, rfl⟩; refine ⟨trivial, ?_⟩
    refine cal (From_is most ((o38).vs) l (Ow.vs_ok ho38) (by omega) hF28) [] [0, 1, 2, 3, 4, 5, 6] [_, _, _, _, _, _, _] rfl rfl rfl (by kernel_rfl) (impl_cons (ow_impl 9 rfl) impl_nil) rfl ?_; rintro _ _ _ ⟨bs39, m39, o39, ho39, rfl, rfl, rfl⟩; refine ⟨trivial, ?_⟩
    refine mv (.tuple _) rfl ?_
    refine xtr (.pointer _) rfl rfl ?_
    refine xtr (.int _ _) rfl rfl ?_
    refine asg (.pointer _) rfl ?_
    refine asg (.int _ _) rfl ?_
    refine jt ?_
    refine c_seq ?_
    refine c_seq ?_
    refine c_reg ?_
    refine mv (.pointer _) rfl ?_
    refine eqpn false rfl rfl Try.underlying24 rfl ?_
    refine mv (.bool _) rfl ?_
    refine g_on rfl rfl rfl ?_
    refine mv (.pointer _) rfl ?_
    refine g_on rfl rfl rfl ?_
    refine eqpn false rfl rfl Try.underlying24 rfl ?_
    refine pkf (.bool _) rfl rfl ?_
    refine mv (.bool _) rfl ?_
    refine g_on rfl rfl rfl ?_
    refine mv (.int _ _) rfl ?_
    refine g_on rfl rfl rfl ?_
    refine cmp false rfl rfl rfl ?_
    refine pkf (.bool _) rfl rfl ?_
    refine jt ?_
    refine c_false rfl ?_
    refine c_skip ?_
    refine e_then ?_
    refine c_seq ?_
    refine c_reg ?_
    refine mv (.pointer _) rfl ?_
    refine cal (Clone_ct bs28 m28 o28 most l ho28 (by omega)) [] [0, 1, 2, 3, 4, 5, 6, 7, 8, 9] [_, _, _, _, _, _, _, _, _, _] rfl rfl rfl (by kernel_rfl) (impl_cons (impl_at 3 rfl) (impl_cons (impl_at 4 rfl) (impl_cons (impl_at 5 rfl) impl_nil))) rfl ?_; rintro _ _ _ ⟨bs53, m53, o53, ho53, rfl, rfl, rfl⟩; refine ⟨trivial, ?_⟩
    refine asg (.pointer _) rfl ?_
    refine jt ?_
    refine c_seq ?_
    refine c_reg ?_
    refine mv (.pointer _) rfl ?_
    refine mv (.int _ _) rfl ?_
    refine cal (Forget_all bs53 m53 o53 most l ho53 (by omega) most (by omega)) [10, 11, 12] [0, 1, 2, 3, 4, 5, 6, 7, 8, 9] [_, _, _, _, _, _, _, _, _, _] rfl rfl rfl (by kernel_rfl) impl_nil rfl ?_; rintro _ _ _ ⟨o56, ho56, rfl, rfl, rfl⟩; refine ⟨trivial, ?_⟩
    refine jt ?_
    refine c_seq ?_
    refine c_seq ?_
    refine c_reg ?_
    refine asg (.int _ _) rfl ?_
    refine jt ?_
    refine c_block ?_
    refine c_loop (σ := Nat × Ow × Ow × Ow × List Spare) (fun ⟨i, os, oc, ob, l2⟩ => i ≤ sc.length ∧ os.ok (List.map plc l2) ∧ oc.ok (List.map plc l2) ∧ ob.ok (List.map plc l2) ∧ (l2.map plc).Nodup ∧ (l2.length : Int) ≤ most) (fun ⟨i, os, oc, ob, l2⟩ => sc.length - i) (fun ⟨i, os, oc, ob, l2⟩ => [(13, .int .i64 (i : Int))]) (fun ⟨i, os, oc, ob, l2⟩ => [[(bs28, .cells (cat [p1 (.int .i64 most), p1 (.map (some m28)), p1 (.slice os.adr (List.map plc l2).length os.cap)]) 76)], [(m28, .pred (isMap (List.map skv l2)))], os.seg (List.map plc l2) 72, [(bs34, .cells (cat [p1 (.int .i64 most), p1 (.map (some m34)), p1 (.slice oc.adr (List.map plc l2).length oc.cap)]) 76)], [(m34, .pred (isMap (List.map skv l2)))], oc.seg (List.map plc l2) 72, o38.seg l 33, [(bs39, .cells (cat [p1 (.int .i64 most), p1 (.map (some m39)), p1 (.slice ob.adr (List.map plc l2).length ob.cap)]) 76)], [(m39, .pred (isMap (List.map skv l2)))], ob.seg (List.map plc l2) 72, [(bs53, .cells (cat [p1 (.int .i64 most), p1 (.map (some m53)), p1 (.slice o56.adr (List.map plc ([] : List Spare)).length o56.cap)]) 76)], [(m53, .pred (isMap (List.map skv ([] : List Spare))))], o56.seg (List.map plc ([] : List Spare)) 72]) (fun ⟨i, os, oc, ob, l2⟩ => [s.seg l, t.seg sc, opsSeg sc]) [6, 13, 14, 15, 16, 17, 18, 19, 20, 21, 22, 57, 58, 59, 60, 61, 62, 63, 64, 65, 66, 67, 68, 69, 70, 71, 72, 73, 74, 75, 76, 77, 78, 79, 80, 81, 82, 83, 84, 85, 86, 87, 88, 89, 90, 91, 92, 93, 94, 95, 96, 97, 98, 99, 100, 101, 102, 103, 104, 105, 106, 107, 108, 109, 110, 111, 112, 113, 114, 115, 116, 117, 118, 119, 120, 121, 122, 123, 124, 125, 126, 127, 128, 129, 130, 131, 132, 133, 134, 135, 136, 137, 138, 139, 140, 141, 142, 143, 144, 145, 146, 147, 148, 149, 150, 151, 152, 153, 154, 155] (⟨0, o28, o34, o39, l⟩) (⟨by omega, ho28, ho34, ho39, hf28.2.1, hf28.2.2⟩) ⟨rfl, trivial⟩ rfl rfl ?_
    rintro ⟨i, os, oc, ob, l2⟩ g1 hI1
    try dsimp only at hI1 ⊢
    refine c_seq ?_
    refine c_seq ?_
    refine c_reg ?_
    refine mv (.int _ _) rfl ?_
    refine mv (.slice _ _ _) rfl ?_
    refine lenS rfl Try.underlying54 ?_
    refine cmp _ rfl rfl rfl ?_
    refine jt ?_
    refine c_cond rfl (fun h1 => ?_) (fun h1 => ?_)
    · replace h1 := of_decide_eq_true h1
      refine c_skip ?_
      refine e_then ?_
      refine c_cut (σ := Ow × Ow × Ow × List Spare) (fun ⟨os', oc', ob', l3⟩ => os'.ok (List.map plc l3) ∧ oc'.ok (List.map plc l3) ∧ ob'.ok (List.map plc l3) ∧ (l3.map plc).Nodup ∧ (l3.length : Int) ≤ most) (fun ⟨os', oc', ob', l3⟩ => []) (fun ⟨os', oc', ob', l3⟩ => [[(bs28, .cells (cat [p1 (.int .i64 most), p1 (.map (some m28)), p1 (.slice os'.adr (List.map plc l3).length os'.cap)]) 76)], [(m28, .pred (isMap (List.map skv l3)))], os'.seg (List.map plc l3) 72, [(bs34, .cells (cat [p1 (.int .i64 most), p1 (.map (some m34)), p1 (.slice oc'.adr (List.map plc l3).length oc'.cap)]) 76)], [(m34, .pred (isMap (List.map skv l3)))], oc'.seg (List.map plc l3) 72, o38.seg l 33, [(bs39, .cells (cat [p1 (.int .i64 most), p1 (.map (some m39)), p1 (.slice ob'.adr (List.map plc l3).length ob'.cap)]) 76)], [(m39, .pred (isMap (List.map skv l3)))], ob'.seg (List.map plc l3) 72, [(bs53, .cells (cat [p1 (.int .i64 most), p1 (.map (some m53)), p1 (.slice o56.adr (List.map plc ([] : List Spare)).length o56.cap)]) 76)], [(m53, .pred (isMap (List.map skv ([] : List Spare))))], o56.seg (List.map plc ([] : List Spare)) 72]) (fun ⟨os', oc', ob', l3⟩ => [s.seg l, t.seg sc, opsSeg sc]) [6, 14, 15, 16, 17, 18, 19, 20, 21, 22, 63, 64, 65, 66, 67, 68, 69, 70, 71, 72, 73, 74, 75, 76, 77, 78, 79, 80, 81, 82, 83, 84, 85, 86, 87, 88, 89, 90, 91, 92, 93, 94, 95, 96, 97, 98, 99, 100, 101, 102, 103, 104, 105, 106, 107, 108, 109, 110, 111, 112, 113, 114, 115, 116, 117, 118, 119, 120, 121, 122, 123, 124, 125, 126, 127, 128, 129, 130, 131, 132, 133, 134, 135, 136, 137, 138, 139, 140, 141, 142, 143, 144, 145, 146, 147, 148, 149, 150, 151, 152, 153, 154, 155] ?_ ?_
      · refine c_block ?_
        refine c_seq ?_
        refine c_reg ?_
        refine mv (.slice _ _ _) rfl ?_
        refine mv (.int _ _) rfl ?_
        refine ixs t sc i ht rfl rfl rfl Try.underlying54 ty57.sz rfl (by first | omega | (simp; done) | (simp; omega) | (simp at *; omega)) ?_
        refine ldvs 14 _ ht rfl rfl rfl rfl (by first | omega | (simp; done) | (simp; omega) | (simp at *; omega)) ty57 ?_
        refine alo [p1 (.int .i64 0), p1 (.bool false), p1 (.slice none 0 0), pt (zarr : Key), p1 (.int .u32 0), p1 (.int .i64 0)] _ z57 rfl fun b14 => ⟨trivial, ?_⟩
        refine stw 13 _ [pt (sc[i].kind), pt (sc[i].other), p1 (.slice sc[i].s.adr sc[i].l.length sc[i].s.cap), pt (sc[i].header), pt (sc[i].n), pt (sc[i].count)] rfl rfl rfl rfl ty57 ⟨trivial, ?_⟩
        refine jt ?_
        refine c_seq ?_
        refine c_reg ?_
        refine fad rfl Try.underlying57 rfl ty3.sz ?_
        refine ldp 13 0 _ rfl rfl rfl rfl ty3 ?_
        refine jt ?_
        refine c_block ?_
        refine c_seq ?_
        refine c_reg ?_
        refine cmp _ rfl rfl rfl ?_
        refine asg (.bool _) rfl ?_
        refine jt ?_
        refine c_cond rfl (fun h2 => ?_) (fun h2 => ?_)
        · replace h2 := of_decide_eq_true h2
          refine c_seq ?_
          refine c_reg ?_
          refine mv (.pointer _) rfl ?_
          refine fad rfl Try.underlying57 rfl ty22.sz ?_
          refine ldp 13 2 _ rfl rfl rfl rfl ty22 ?_
          refine cal (Put_is bs28 m28 os most l2 hI1.2.1 (by omega) (by omega) hI1.2.2.2.2.1 (sc[i].s) (sc[i].l) ((hops sc[i] (List.getElem_mem (show i < sc.length by omega))).1) (by have := (hops sc[i] (List.getElem_mem (by omega))).2; omega) (z := putE most l2 (sc[i].l)) (l2 := (putL most l2 (sc[i].l))) rfl rfl) [0, 1, 2] [3, 4, 5, 6, 7, 8, 9, 10, 11, 12, 13] [_, _, _, _, _, _, _, _, _, _, _] rfl rfl rfl (by kernel_rfl) (impl_cons (impl_op 2 rfl (show i < sc.length by omega)) impl_nil) rfl ?_; rintro _ _ _ ⟨o74, ho74, rfl, rfl, rfl⟩; refine ⟨trivial, ?_⟩
          refine asg (.int _ _) rfl ?_
          refine jt ?_
          refine c_seq ?_
          refine c_reg ?_
          refine mv (.pointer _) rfl ?_
          refine fad rfl Try.underlying57 rfl ty22.sz ?_
          refine ldp 10 2 _ rfl rfl rfl rfl ty22 ?_
          refine cal (Put_is bs34 m34 oc most l2 hI1.2.2.1 (by omega) (by omega) hI1.2.2.2.2.1 (sc[i].s) (sc[i].l) ((hops sc[i] (List.getElem_mem (show i < sc.length by omega))).1) (by have := (hops sc[i] (List.getElem_mem (by omega))).2; omega) (z := putE most l2 (sc[i].l)) (l2 := (putL most l2 (sc[i].l))) rfl rfl) [0, 1, 2] [3, 4, 5, 6, 7, 8, 9, 10, 11, 12, 13] [_, _, _, _, _, _, _, _, _, _, _] rfl rfl rfl (by kernel_rfl) (impl_cons (impl_op 2 rfl (show i < sc.length by omega)) impl_nil) rfl ?_; rintro _ _ _ ⟨o78, ho78, rfl, rfl, rfl⟩; refine ⟨trivial, ?_⟩
          refine mv (.int _ _) rfl ?_
          refine cmp false rfl rfl (by simp [cmpV]) ?_
          refine mv (.bool _) rfl ?_
          refine g_on rfl rfl rfl ?_
          refine mv (.pointer _) rfl ?_
          refine g_on rfl rfl rfl ?_
          refine fad rfl Try.underlying57 rfl ty22.sz ?_
          refine g_on rfl rfl rfl ?_
          refine ldp 7 2 _ rfl rfl rfl rfl ty22 ?_
          refine g_on rfl rfl rfl ?_
          refine cal (Put_is bs39 m39 ob most l2 hI1.2.2.2.1 (by omega) (by omega) hI1.2.2.2.2.1 (sc[i].s) (sc[i].l) ((hops sc[i] (List.getElem_mem (show i < sc.length by omega))).1) (by have := (hops sc[i] (List.getElem_mem (by omega))).2; omega) (z := putE most l2 (sc[i].l)) (l2 := (putL most l2 (sc[i].l))) rfl rfl) [1, 2, 3] [0, 4, 5, 6, 7, 8, 9, 10, 11, 12, 13] [_, _, _, _, _, _, _, _, _, _, _] rfl rfl rfl (by kernel_rfl) (impl_cons (impl_op 2 rfl (show i < sc.length by omega)) impl_nil) rfl ?_; rintro _ _ _ ⟨o85, ho85, rfl, rfl, rfl⟩; refine ⟨trivial, ?_⟩
          refine g_on rfl rfl rfl ?_
          refine mv (.int _ _) rfl ?_
          refine g_on rfl rfl rfl ?_
          refine cmp false rfl rfl (by simp [cmpV]) ?_
          refine pkf (.bool _) rfl rfl ?_
          refine jt ?_
          refine c_false rfl ?_
          refine c_skip ?_
          refine e_in ?_
          refine e_in ?_
          refine e_keep [5, 6, 7, 8, 9, 10, 0, 11, 12, 13, 1, 2, 3] [4] [_, _, _, _, _, _, _, _, _, _, _, _, _] rfl (by kernel_rfl) ?_
          exact e_lp (⟨o74, o78, o85, (putL most l2 (sc[i].l))⟩ : Ow × Ow × Ow × List Spare) (by repeat (first | exact out_self | refine out_hav (by kernel_rfl) ?_ | refine out_look (by kernel_rfl) ?_)) (⟨ho74, ho78, ho85, by first | exact ⟨hI1.2.2.2.2.1, hI1.2.2.2.2.2⟩ | exact ⟨putL_nd hI1.2.2.2.2.1, putL_most hI1.2.2.2.2.2⟩ | exact ⟨takeL_nd hI1.2.2.2.2.1, takeL_most hI1.2.2.2.2.2⟩ | exact ⟨drop_nd hI1.2.2.2.2.1, drop_most hI1.2.2.2.2.2⟩⟩) trivial trivial rfl rfl rfl
        · replace h2 := of_decide_eq_false h2
          refine c_seq ?_
          refine c_reg ?_
          refine cmp _ rfl rfl rfl ?_
          refine asg (.bool _) rfl ?_
          refine jt ?_
          refine c_cond rfl (fun h3 => ?_) (fun h3 => ?_)
          · replace h3 := of_decide_eq_true h3
            refine c_seq ?_
            refine c_reg ?_
            refine mv (.pointer _) rfl ?_
            refine fad rfl Try.underlying57 rfl ty30.sz ?_
            refine ldp 13 3 _ rfl rfl rfl rfl ty30 ?_
            refine fad rfl Try.underlying57 rfl ty31.sz ?_
            refine ldp 13 4 _ rfl rfl rfl rfl ty31 ?_
            obtain ⟨kf, hkf⟩ : ∃ kf, (mget (⟨sc[i].header, sc[i].n⟩ : SpP) (List.map skv l2)).getD zarr = kf := ⟨_, rfl⟩
            obtain ⟨ff, hff⟩ : ∃ ff, (mget (⟨sc[i].header, sc[i].n⟩ : SpP) (List.map skv l2)).isSome = ff := ⟨_, rfl⟩
            refine cal (Take_is bs28 m28 os most l2 hI1.2.1 (by omega) hI1.2.2.2.2.1 (sc[i].header) (sc[i].n) (l2 := (takeL (sc[i].header) (sc[i].n) l2)) (k := kf) (f := ff) rfl hkf hff) [0, 1, 2] [3, 4, 5, 6, 7, 8, 9, 10, 11, 12, 13] [_, _, _, _, _, _, _, _, _, _, _] rfl rfl rfl (by kernel_rfl) impl_nil rfl ?_; rintro _ _ _ ⟨o97, ho97, rfl, rfl, rfl⟩; refine ⟨trivial, ?_⟩
            refine mv (.tuple _) rfl ?_
            refine xtr (.agg _) rfl rfl ?_
            refine xtr (.bool _) rfl rfl ?_
            refine alo [pt (zarr : Key)] _ z30 rfl fun b16 => ⟨trivial, ?_⟩
            refine stw 14 _ [pt kf] rfl rfl rfl rfl ty30 ⟨trivial, ?_⟩
            refine asg (.bool _) rfl ?_
            refine jt ?_
            refine c_seq ?_
            refine c_reg ?_
            refine mv (.pointer _) rfl ?_
            refine fad rfl Try.underlying57 rfl ty30.sz ?_
            refine ldp 10 3 _ rfl rfl rfl rfl ty30 ?_
            refine fad rfl Try.underlying57 rfl ty31.sz ?_
            refine ldp 10 4 _ rfl rfl rfl rfl ty31 ?_
            refine cal (Take_is bs34 m34 oc most l2 hI1.2.2.1 (by omega) hI1.2.2.2.2.1 (sc[i].header) (sc[i].n) (l2 := (takeL (sc[i].header) (sc[i].n) l2)) (k := kf) (f := ff) rfl hkf hff) [0, 1, 2] [3, 4, 5, 6, 7, 8, 9, 10, 11, 12, 13, 14] [_, _, _, _, _, _, _, _, _, _, _, _] rfl rfl rfl (by kernel_rfl) impl_nil rfl ?_; rintro _ _ _ ⟨o106, ho106, rfl, rfl, rfl⟩; refine ⟨trivial, ?_⟩
            refine mv (.tuple _) rfl ?_
            refine xtr (.agg _) rfl rfl ?_
            refine xtr (.bool _) rfl rfl ?_
            refine alo [pt (zarr : Key)] _ z30 rfl fun b18 => ⟨trivial, ?_⟩
            refine stw 15 _ [pt kf] rfl rfl rfl rfl ty30 ⟨trivial, ?_⟩
            refine asg (.bool _) rfl ?_
            refine jt ?_
            refine c_seq ?_
            refine c_reg ?_
            refine mv (.pointer _) rfl ?_
            refine fad rfl Try.underlying57 rfl ty30.sz ?_
            refine ldp 7 3 _ rfl rfl rfl rfl ty30 ?_
            refine fad rfl Try.underlying57 rfl ty31.sz ?_
            refine ldp 7 4 _ rfl rfl rfl rfl ty31 ?_
            refine cal (Take_is bs39 m39 ob most l2 hI1.2.2.2.1 (by omega) hI1.2.2.2.2.1 (sc[i].header) (sc[i].n) (l2 := (takeL (sc[i].header) (sc[i].n) l2)) (k := kf) (f := ff) rfl hkf hff) [1, 2, 3] [0, 4, 5, 6, 7, 8, 9, 10, 11, 12, 13, 14, 15] [_, _, _, _, _, _, _, _, _, _, _, _, _] rfl rfl rfl (by kernel_rfl) impl_nil rfl ?_; rintro _ _ _ ⟨o115, ho115, rfl, rfl, rfl⟩; refine ⟨trivial, ?_⟩
            refine mv (.tuple _) rfl ?_
            refine xtr (.agg _) rfl rfl ?_
            refine xtr (.bool _) rfl rfl ?_
            refine alo [pt (zarr : Key)] _ z30 rfl fun b20 => ⟨trivial, ?_⟩
            refine stw 16 _ [pt kf] rfl rfl rfl rfl ty30 ⟨trivial, ?_⟩
            refine asg (.bool _) rfl ?_
            refine jt ?_
            refine c_seq ?_
            refine c_reg ?_
            refine ldp 8 0 _ rfl rfl rfl rfl ty30 ?_
            refine ldp 12 0 _ rfl rfl rfl rfl ty30 ?_
            refine eqA kf kf false rfl rfl rfl rfl eq30 rfl Try.eqGuardType30 (by simp) ?_
            refine mv (.bool _) rfl ?_
            refine g_on rfl rfl rfl ?_
            refine ldp 8 0 _ rfl rfl rfl rfl ty30 ?_
            refine g_on rfl rfl rfl ?_
            refine ldp 16 0 _ rfl rfl rfl rfl ty30 ?_
            refine g_on rfl rfl rfl ?_
            refine eqA kf kf false rfl rfl rfl rfl eq30 rfl Try.eqGuardType30 (by simp) ?_
            refine pkf (.bool _) rfl rfl ?_
            refine mv (.bool _) rfl ?_
            refine g_on rfl rfl rfl ?_
            refine mv (.bool _) rfl ?_
            refine g_on rfl rfl rfl ?_
            refine mv (.bool _) rfl ?_
            refine g_on rfl rfl rfl ?_
            refine eqbo false rfl rfl Try.underlying4 (by simp) ?_
            refine pkf (.bool _) rfl rfl ?_
            refine mv (.bool _) rfl ?_
            refine g_on rfl rfl rfl ?_
            refine mv (.bool _) rfl ?_
            refine g_on rfl rfl rfl ?_
            refine mv (.bool _) rfl ?_
            refine g_on rfl rfl rfl ?_
            refine eqbo false rfl rfl Try.underlying4 (by simp) ?_
            refine pkf (.bool _) rfl rfl ?_
            refine jt ?_
            refine c_false rfl ?_
            refine c_skip ?_
            refine e_in ?_
            refine e_in ?_
            refine e_keep [5, 6, 7, 9, 10, 11, 0, 13, 14, 15, 1, 2, 3] [4, 8, 12, 16] [_, _, _, _, _, _, _, _, _, _, _, _, _] rfl (by kernel_rfl) ?_
            exact e_lp (⟨o97, o106, o115, (takeL (sc[i].header) (sc[i].n) l2)⟩ : Ow × Ow × Ow × List Spare) (by repeat (first | exact out_self | refine out_hav (by kernel_rfl) ?_ | refine out_look (by kernel_rfl) ?_)) (⟨ho97, ho106, ho115, by first | exact ⟨hI1.2.2.2.2.1, hI1.2.2.2.2.2⟩ | exact ⟨putL_nd hI1.2.2.2.2.1, putL_most hI1.2.2.2.2.2⟩ | exact ⟨takeL_nd hI1.2.2.2.2.1, takeL_most hI1.2.2.2.2.2⟩ | exact ⟨drop_nd hI1.2.2.2.2.1, drop_most hI1.2.2.2.2.2⟩⟩) trivial trivial rfl rfl rfl
          · replace h3 := of_decide_eq_false h3
            refine c_seq ?_
            refine c_reg ?_
            refine cmp _ rfl rfl rfl ?_
            refine asg (.bool _) rfl ?_
            refine jt ?_
            refine c_cond rfl (fun h4 => ?_) (fun h4 => ?_)
            · replace h4 := of_decide_eq_true h4
              refine c_seq ?_
              refine c_reg ?_
              refine mv (.pointer _) rfl ?_
              refine fad rfl Try.underlying57 rfl ty3.sz ?_
              refine ldp 13 5 _ rfl rfl rfl rfl ty3 ?_
              refine cal (Forget_ct bs28 m28 os most l2 hI1.2.1 (by omega) (sc[i].count)) [0, 1, 2] [3, 4, 5, 6, 7, 8, 9, 10, 11, 12, 13] [_, _, _, _, _, _, _, _, _, _, _] rfl rfl rfl (by kernel_rfl) impl_nil rfl ?_; rintro _ _ _ ⟨o141, ho141, rfl, rfl, rfl⟩; refine ⟨trivial, ?_⟩
              refine asg (.int _ _) rfl ?_
              refine jt ?_
              refine c_seq ?_
              refine c_reg ?_
              refine mv (.pointer _) rfl ?_
              refine fad rfl Try.underlying57 rfl ty3.sz ?_
              refine ldp 10 5 _ rfl rfl rfl rfl ty3 ?_
              refine cal (Forget_ct bs34 m34 oc most l2 hI1.2.2.1 (by omega) (sc[i].count)) [0, 1, 2] [3, 4, 5, 6, 7, 8, 9, 10, 11, 12, 13] [_, _, _, _, _, _, _, _, _, _, _] rfl rfl rfl (by kernel_rfl) impl_nil rfl ?_; rintro _ _ _ ⟨o145, ho145, rfl, rfl, rfl⟩; refine ⟨trivial, ?_⟩
              refine mv (.int _ _) rfl ?_
              refine cmp false rfl rfl (by simp [cmpV]) ?_
              refine mv (.bool _) rfl ?_
              refine g_on rfl rfl rfl ?_
              refine mv (.pointer _) rfl ?_
              refine g_on rfl rfl rfl ?_
              refine fad rfl Try.underlying57 rfl ty3.sz ?_
              refine g_on rfl rfl rfl ?_
              refine ldp 7 5 _ rfl rfl rfl rfl ty3 ?_
              refine g_on rfl rfl rfl ?_
              refine cal (Forget_ct bs39 m39 ob most l2 hI1.2.2.2.1 (by omega) (sc[i].count)) [1, 2, 3] [0, 4, 5, 6, 7, 8, 9, 10, 11, 12, 13] [_, _, _, _, _, _, _, _, _, _, _] rfl rfl rfl (by kernel_rfl) impl_nil rfl ?_; rintro _ _ _ ⟨o152, ho152, rfl, rfl, rfl⟩; refine ⟨trivial, ?_⟩
              refine g_on rfl rfl rfl ?_
              refine mv (.int _ _) rfl ?_
              refine g_on rfl rfl rfl ?_
              refine cmp false rfl rfl (by simp [cmpV]) ?_
              refine pkf (.bool _) rfl rfl ?_
              refine jt ?_
              refine c_false rfl ?_
              refine c_skip ?_
              refine e_in ?_
              refine e_in ?_
              refine e_keep [5, 6, 7, 8, 9, 10, 0, 11, 12, 13, 1, 2, 3] [4] [_, _, _, _, _, _, _, _, _, _, _, _, _] rfl (by kernel_rfl) ?_
              exact e_lp (⟨o141, o145, o152, (List.drop (fg (sc[i].count) l2) l2)⟩ : Ow × Ow × Ow × List Spare) (by repeat (first | exact out_self | refine out_hav (by kernel_rfl) ?_ | refine out_look (by kernel_rfl) ?_)) (⟨ho141, ho145, ho152, by first | exact ⟨hI1.2.2.2.2.1, hI1.2.2.2.2.2⟩ | exact ⟨putL_nd hI1.2.2.2.2.1, putL_most hI1.2.2.2.2.2⟩ | exact ⟨takeL_nd hI1.2.2.2.2.1, takeL_most hI1.2.2.2.2.2⟩ | exact ⟨drop_nd hI1.2.2.2.2.1, drop_most hI1.2.2.2.2.2⟩⟩) trivial trivial rfl rfl rfl
            · replace h4 := of_decide_eq_false h4
              refine c_skip ?_
              refine e_in ?_
              refine e_in ?_
              refine e_keep [0, 1, 2, 3, 4, 5, 6, 7, 8, 9, 10, 11, 12] [13] [_, _, _, _, _, _, _, _, _, _, _, _, _] rfl (by kernel_rfl) ?_
              exact e_lp (⟨os, oc, ob, l2⟩ : Ow × Ow × Ow × List Spare) (by repeat (first | exact out_self | refine out_hav (by kernel_rfl) ?_ | refine out_look (by kernel_rfl) ?_)) (⟨hI1.2.1, hI1.2.2.1, hI1.2.2.2.1, by first | exact ⟨hI1.2.2.2.2.1, hI1.2.2.2.2.2⟩ | exact ⟨putL_nd hI1.2.2.2.2.1, putL_most hI1.2.2.2.2.2⟩ | exact ⟨takeL_nd hI1.2.2.2.2.1, takeL_most hI1.2.2.2.2.2⟩ | exact ⟨drop_nd hI1.2.2.2.2.1, drop_most hI1.2.2.2.2.2⟩⟩) trivial trivial rfl rfl rfl
      · rintro ⟨os', oc', ob', l3⟩ g hJ
        try dsimp only at hJ ⊢
        refine c_reg ?_
        refine mv (.int _ _) rfl ?_
        refine addi rfl rfl rfl (by omega) ?_
        refine asg (.int _ _) rfl ?_
        refine jn ?_
        exact e_lp (⟨i + 1, os', oc', ob', l3⟩ : Nat × Ow × Ow × Ow × List Spare) (by repeat (first | exact out_self | refine out_hav (by kernel_rfl) ?_ | refine out_look (by kernel_rfl) ?_)) (⟨by omega, hJ.1, hJ.2.1, hJ.2.2.1, hJ.2.2.2.1, hJ.2.2.2.2⟩) (by (try dsimp only); omega) (⟨rfl, trivial⟩) rfl rfl rfl
    · replace h1 := of_decide_eq_false h1
      refine c_exit rfl ?_
      refine e_then ?_
      refine c_seq ?_
      refine c_reg ?_
      refine mv (.pointer _) rfl ?_
      refine cal (List_ct bs28 m28 os most l2 hI1.2.1 (by omega) hI1.2.2.2.2.1) [] [0, 1, 2, 3, 4, 5, 6, 7, 8, 9, 10, 11, 12] [_, _, _, _, _, _, _, _, _, _, _, _, _] rfl rfl rfl (by kernel_rfl) (impl_cons (impl_at 3 rfl) (impl_cons (impl_at 4 rfl) (impl_cons (impl_at 5 rfl) impl_nil))) rfl ?_; rintro _ _ _ ⟨o157, ho157, rfl, rfl, rfl⟩; refine ⟨trivial, ?_⟩
      refine mv (.pointer _) rfl ?_
      refine cal (List_ct bs34 m34 oc most l2 hI1.2.2.1 (by omega) hI1.2.2.2.2.1) [] [0, 1, 2, 3, 4, 5, 6, 7, 8, 9, 10, 11, 12, 13] [_, _, _, _, _, _, _, _, _, _, _, _, _, _] rfl rfl rfl (by kernel_rfl) (impl_cons (impl_at 6 rfl) (impl_cons (impl_at 7 rfl) (impl_cons (impl_at 8 rfl) impl_nil))) rfl ?_; rintro _ _ _ ⟨o159, ho159, rfl, rfl, rfl⟩; refine ⟨trivial, ?_⟩
      refine cal (sameSpares_self ((o157).vs) ((o159).vs) l2 (Ow.vs_ok ho157) (Ow.vs_ok ho159) (by omega)) [] [0, 1, 2, 3, 4, 5, 6, 7, 8, 9, 10, 11, 12, 13, 14] [_, _, _, _, _, _, _, _, _, _, _, _, _, _, _] rfl rfl rfl (by kernel_rfl) (impl_cons (ow_impl 16 rfl) (impl_cons (ow_impl 17 rfl) impl_nil)) rfl ?_; rintro _ _ _ ⟨rfl, rfl, rfl⟩; refine ⟨trivial, ?_⟩
      refine mv (.bool _) rfl ?_
      refine g_on rfl rfl rfl ?_
      refine mv (.pointer _) rfl ?_
      refine g_on rfl rfl rfl ?_
      refine cal (List_ct bs28 m28 os most l2 hI1.2.1 (by omega) hI1.2.2.2.2.1) [] [0, 1, 2, 3, 4, 5, 6, 7, 8, 9, 10, 11, 12, 13, 14] [_, _, _, _, _, _, _, _, _, _, _, _, _, _, _] rfl rfl rfl (by kernel_rfl) (impl_cons (impl_at 3 rfl) (impl_cons (impl_at 4 rfl) (impl_cons (impl_at 5 rfl) impl_nil))) rfl ?_; rintro _ _ _ ⟨o163, ho163, rfl, rfl, rfl⟩; refine ⟨trivial, ?_⟩
      refine g_on rfl rfl rfl ?_
      refine mv (.pointer _) rfl ?_
      refine g_on rfl rfl rfl ?_
      refine cal (List_ct bs39 m39 ob most l2 hI1.2.2.2.1 (by omega) hI1.2.2.2.2.1) [] [0, 1, 2, 3, 4, 5, 6, 7, 8, 9, 10, 11, 12, 13, 14, 15] [_, _, _, _, _, _, _, _, _, _, _, _, _, _, _, _] rfl rfl rfl (by kernel_rfl) (impl_cons (impl_at 10 rfl) (impl_cons (impl_at 11 rfl) (impl_cons (impl_at 12 rfl) impl_nil))) rfl ?_; rintro _ _ _ ⟨o165, ho165, rfl, rfl, rfl⟩; refine ⟨trivial, ?_⟩
      refine g_on rfl rfl rfl ?_
      refine cal (sameSpares_self ((o163).vs) ((o165).vs) l2 (Ow.vs_ok ho163) (Ow.vs_ok ho165) (by omega)) [] [0, 1, 2, 3, 4, 5, 6, 7, 8, 9, 10, 11, 12, 13, 14, 15, 16] [_, _, _, _, _, _, _, _, _, _, _, _, _, _, _, _, _] rfl rfl rfl (by kernel_rfl) (impl_cons (ow_impl 18 rfl) (impl_cons (ow_impl 19 rfl) impl_nil)) rfl ?_; rintro _ _ _ ⟨rfl, rfl, rfl⟩; refine ⟨trivial, ?_⟩
      refine pkt (.bool _) rfl rfl ?_
      refine mv (.bool _) rfl ?_
      refine g_on rfl rfl rfl ?_
      refine mv (.pointer _) rfl ?_
      refine g_on rfl rfl rfl ?_
      refine cal (Room_ct bs34 m34 oc most l2 hI1.2.2.1 (by omega) (by omega)) [] [0, 1, 2, 3, 4, 5, 6, 7, 8, 9, 10, 11, 12, 13, 14, 15, 16] [_, _, _, _, _, _, _, _, _, _, _, _, _, _, _, _, _] rfl rfl rfl (by kernel_rfl) (impl_cons (impl_at 6 rfl) (impl_cons (impl_at 7 rfl) (impl_cons (impl_at 8 rfl) impl_nil))) rfl ?_; rintro _ _ _ ⟨rfl, rfl, rfl⟩; refine ⟨trivial, ?_⟩
      refine g_on rfl rfl rfl ?_
      refine mv (.pointer _) rfl ?_
      refine g_on rfl rfl rfl ?_
      refine cal (Room_ct bs28 m28 os most l2 hI1.2.1 (by omega) (by omega)) [] [0, 1, 2, 3, 4, 5, 6, 7, 8, 9, 10, 11, 12, 13, 14, 15, 16] [_, _, _, _, _, _, _, _, _, _, _, _, _, _, _, _, _] rfl rfl rfl (by kernel_rfl) (impl_cons (impl_at 3 rfl) (impl_cons (impl_at 4 rfl) (impl_cons (impl_at 5 rfl) impl_nil))) rfl ?_; rintro _ _ _ ⟨rfl, rfl, rfl⟩; refine ⟨trivial, ?_⟩
      refine g_on rfl rfl rfl ?_
      refine cmp true rfl rfl (by simp [cmpV]) ?_
      refine pkt (.bool _) rfl rfl ?_
      refine mv (.bool _) rfl ?_
      refine g_on rfl rfl rfl ?_
      refine mv (.pointer _) rfl ?_
      refine g_on rfl rfl rfl ?_
      refine cal (Room_ct bs39 m39 ob most l2 hI1.2.2.2.1 (by omega) (by omega)) [] [0, 1, 2, 3, 4, 5, 6, 7, 8, 9, 10, 11, 12, 13, 14, 15, 16] [_, _, _, _, _, _, _, _, _, _, _, _, _, _, _, _, _] rfl rfl rfl (by kernel_rfl) (impl_cons (impl_at 10 rfl) (impl_cons (impl_at 11 rfl) (impl_cons (impl_at 12 rfl) impl_nil))) rfl ?_; rintro _ _ _ ⟨rfl, rfl, rfl⟩; refine ⟨trivial, ?_⟩
      refine g_on rfl rfl rfl ?_
      refine mv (.pointer _) rfl ?_
      refine g_on rfl rfl rfl ?_
      refine cal (Room_ct bs28 m28 os most l2 hI1.2.1 (by omega) (by omega)) [] [0, 1, 2, 3, 4, 5, 6, 7, 8, 9, 10, 11, 12, 13, 14, 15, 16] [_, _, _, _, _, _, _, _, _, _, _, _, _, _, _, _, _] rfl rfl rfl (by kernel_rfl) (impl_cons (impl_at 3 rfl) (impl_cons (impl_at 4 rfl) (impl_cons (impl_at 5 rfl) impl_nil))) rfl ?_; rintro _ _ _ ⟨rfl, rfl, rfl⟩; refine ⟨trivial, ?_⟩
      refine g_on rfl rfl rfl ?_
      refine cmp true rfl rfl (by simp [cmpV]) ?_
      refine pkt (.bool _) rfl rfl ?_
      refine mv (.bool _) rfl ?_
      refine g_on rfl rfl rfl ?_
      refine mv (.pointer _) rfl ?_
      refine g_on rfl rfl rfl ?_
      refine cal (Len_ct bs53 m53 o56 most ([] : List Spare) ho56) [] [0, 1, 2, 3, 4, 5, 6, 7, 8, 9, 10, 11, 12, 13, 14, 15, 16] [_, _, _, _, _, _, _, _, _, _, _, _, _, _, _, _, _] rfl rfl rfl (by kernel_rfl) (impl_cons (impl_at 13 rfl) (impl_cons (impl_at 14 rfl) (impl_cons (impl_at 15 rfl) impl_nil))) rfl ?_; rintro _ _ _ ⟨rfl, rfl, rfl⟩; refine ⟨trivial, ?_⟩
      refine g_on rfl rfl rfl ?_
      refine cmp true rfl rfl rfl ?_
      refine pkt (.bool _) rfl rfl ?_
      refine mv (.bool _) rfl ?_
      refine g_on rfl rfl rfl ?_
      refine mv (.pointer _) rfl ?_
      refine g_on rfl rfl rfl ?_
      refine cal (Room_ct bs53 m53 o56 most ([] : List Spare) ho56 (by omega) (by decide)) [] [0, 1, 2, 3, 4, 5, 6, 7, 8, 9, 10, 11, 12, 13, 14, 15, 16] [_, _, _, _, _, _, _, _, _, _, _, _, _, _, _, _, _] rfl rfl rfl (by kernel_rfl) (impl_cons (impl_at 13 rfl) (impl_cons (impl_at 14 rfl) (impl_cons (impl_at 15 rfl) impl_nil))) rfl ?_; rintro _ _ _ ⟨rfl, rfl, rfl⟩; refine ⟨trivial, ?_⟩
      refine g_on rfl rfl rfl ?_
      refine mv (.int _ _) rfl ?_
      refine g_on rfl rfl rfl ?_
      refine cmp true rfl rfl (by simp [cmpV]) ?_
      refine pkt (.bool _) rfl rfl ?_
      refine asg (.bool _) rfl ?_
      refine jt ?_
      refine c_ret ?_
      exact j_end (own0 := []) (ro0 := [s.seg l, t.seg sc, opsSeg sc]) (.inl rfl) rfl (hr1 Try.results7 (rvt (v := (.bool _)) rfl)) [] [0, 1, 2, 3, 4, 5, 6, 7, 8, 9, 10, 11, 12, 13, 14, 15, 16] [] [_, _, _, _, _, _, _, _, _, _, _, _, _, _, _, _, _] [] _ rfl rfl (by kernel_rfl) rfl impl_nil (⟨rfl, rfl, rfl⟩)
  · refine ⟨trivial, ?_⟩
    refine mv (.tuple _) rfl ?_
    refine xtr (.pointer _) rfl rfl ?_
    refine xtr (.int _ _) rfl rfl ?_
    refine asg (.pointer _) rfl ?_
    refine asg (.int _ _) rfl ?_
    refine jt ?_
    refine c_seq ?_
    refine c_seq ?_
    refine c_reg ?_
    refine mv (.int _ _) rfl ?_
    refine cmp true rfl rfl (by simp only [cmpV, decide_eq_false hF28]; simp) ?_
    refine jt ?_
    refine c_true rfl ?_
    refine c_seq ?_
    refine c_reg ?_
    refine asg (.bool _) rfl ?_
    refine jt ?_
    refine c_ret ?_
    exact j_end (own0 := []) (ro0 := [s.seg l, t.seg sc, opsSeg sc]) (.inl rfl) rfl (hr1 Try.results7 (rvt (v := (.bool _)) rfl)) [] [] [] [] [] _ rfl rfl (by kernel_rfl) rfl impl_nil (⟨rfl, rfl, rfl⟩)
end Go.Proofs.Ytacfjmjcgolhfaa
