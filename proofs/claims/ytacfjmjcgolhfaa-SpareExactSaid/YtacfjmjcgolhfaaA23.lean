/- Contracts of the program's functions, walked. No condition. -/
import Derived.Test.YtacfjmjcgolhfaaA22
namespace Go.Proofs.Ytacfjmjcgolhfaa
open Go Go.Proofs Go.PW
open Go.PW.Enc (enc val)


set_option maxRecDepth 20000 in
set_option maxHeartbeats 4000000 in
theorem spoil_ct (bsh : Nat) (oL oW oK oY : Ow) (HL : List (Hd Spare)) (HK : List (Hd Key)) (hoL : oL.ok (HL.map hdA)) (hoW : oW.ok (HL.map hdB)) (hoK : oK.ok (HK.map hdA)) (hoY : oY.ok (HK.map hdB)) (hHL : ∀ p ∈ HL, p.ok) (hHK : ∀ p ∈ HK, p.ok) (hL : HL.length ≤ 9223372036854775805) (hK : HK.length ≤ 9223372036854775805) : Ct Try.prog 28 [.pointer (some ⟨bsh, 0, none⟩)] [[(bsh, .cells (cat [p1 (.slice oL.adr (HL.map hdA).length oL.cap), p1 (.slice oW.adr (HL.map hdB).length oW.cap), p1 (.slice oK.adr (HK.map hdA).length oK.cap), p1 (.slice oY.adr (HK.map hdB).length oY.cap)]) 48)], oL.seg (HL.map hdA) 22, oW.seg (HL.map hdB) 22, oK.seg (HK.map hdA) 77, oY.seg (HK.map hdB) 77, segA 33 HL, segB 33 HL, segA 30 HK, segB 30 HK] [] (fun v w r => v = .bool true ∧ w = [[(bsh, .cells (cat [p1 (.slice oL.adr (HL.map hdA).length oL.cap), p1 (.slice oW.adr (HL.map hdB).length oW.cap), p1 (.slice oK.adr (HK.map hdA).length oK.cap), p1 (.slice oY.adr (HK.map hdB).length oY.cap)]) 48)], oL.seg (HL.map hdA) 22, oW.seg (HL.map hdB) 22, oK.seg (HK.map hdA) 77, oY.seg (HK.map hdB) 77] ∧ r = []) := by
  have hmL : (List.map hdA HL).length = HL.length := by simp
  have hmW : (List.map hdB HL).length = HL.length := by simp
  have hmK : (List.map hdA HK).length = HK.length := by simp
  have hmY : (List.map hdB HK).length = HK.length := by simp
  refine ct_enter Try.func28 rfl Try.ntmps28 (by kernel_rfl) rfl fun w0 => ?_
  refine c_seq ?_
  refine c_reg ?_
  refine asg (.bool _) rfl ?_
  refine jt ?_
  refine c_seq ?_
  refine c_seq ?_
  refine c_reg ?_
  refine asg (.int _ _) rfl ?_
  refine jt ?_
  refine c_block ?_
  refine c_loop (σ := Nat) (fun i => i ≤ HL.length) (fun i => HL.length - i) (fun i => [(3, .int .i64 (i : Int))]) (fun i => [[(bsh, .cells (cat [p1 (.slice oL.adr (HL.map hdA).length oL.cap), p1 (.slice oW.adr (HL.map hdB).length oW.cap), p1 (.slice oK.adr (HK.map hdA).length oK.cap), p1 (.slice oY.adr (HK.map hdB).length oY.cap)]) 48)], oL.seg (HL.map hdA) 22, oW.seg (HL.map hdB) 22, oK.seg (HK.map hdA) 77, oY.seg (HK.map hdB) 77, segA 33 (HL.drop i), segB 33 HL, segA 30 HK, segB 30 HK]) (fun i => []) [2, 3, 4, 7, 8, 9, 10, 11, 12, 13, 14, 15, 16, 17, 18, 19, 20, 21, 22, 23, 24, 25, 26, 27, 28, 29, 30, 31, 32, 33, 34, 35, 36, 37, 38, 39, 40, 41, 42, 43, 44, 45, 46, 47, 48, 49, 50, 51, 52, 53, 54] 0 (by omega) ⟨rfl, trivial⟩ rfl rfl ?_
  rintro i g1 hI1
  try dsimp only at hI1 ⊢
  refine c_seq ?_
  refine c_seq ?_
  refine c_reg ?_
  refine mv (.int _ _) rfl ?_
  refine mv (.pointer _) rfl ?_
  refine nlc rfl ?_
  refine fad rfl Try.underlying48 rfl ty45.sz ?_
  refine ldp 0 0 _ rfl rfl rfl rfl ty45 ?_
  refine lenS rfl Try.underlying45 ?_
  refine cmp _ rfl rfl rfl ?_
  refine jt ?_
  refine c_cond rfl (fun h1 => ?_) (fun h1 => ?_)
  · replace h1 := of_decide_eq_true h1
    refine c_skip ?_
    refine e_then ?_
    refine c_seq ?_
    refine c_block ?_
    refine c_seq ?_
    refine c_seq ?_
    obtain ⟨p, hp⟩ : ∃ p, HL[i]? = some p := ⟨HL[i]'(by simp at *; omega), List.getElem?_eq_getElem _⟩
    have hpok := hHL p (List.mem_of_getElem? hp)
    have hpl := hpok.2.2
    refine c_part (own' := [[(bsh, .cells (cat [p1 (.slice oL.adr (HL.map hdA).length oL.cap), p1 (.slice oW.adr (HL.map hdB).length oW.cap), p1 (.slice oK.adr (HK.map hdA).length oK.cap), p1 (.slice oY.adr (HK.map hdB).length oY.cap)]) 48)], oL.seg (HL.map hdA) 22, oW.seg (HL.map hdB) 22, oK.seg (HK.map hdA) 77, oY.seg (HK.map hdB) 77, p.a.seg p.xs 33, segA 33 (HL.drop (i + 1)), segB 33 HL, segA 30 HK, segB 30 HK]) (List.Perm.of_eq (by simp only [List.flatten_cons, segA_at hp, List.append_assoc])) ?_
    refine c_reg ?_
    refine asg (.int _ _) rfl ?_
    refine jt ?_
    refine c_block ?_
    refine c_loop (σ := Nat × List Spare) (fun ⟨j, zs⟩ => zs.length = p.xs.length ∧ p.a.ok zs) (fun ⟨j, zs⟩ => p.xs.length - j) (fun ⟨j, zs⟩ => [(4, .int .i64 (j : Int))]) (fun ⟨j, zs⟩ => [[(bsh, .cells (cat [p1 (.slice oL.adr (HL.map hdA).length oL.cap), p1 (.slice oW.adr (HL.map hdB).length oW.cap), p1 (.slice oK.adr (HK.map hdA).length oK.cap), p1 (.slice oY.adr (HK.map hdB).length oY.cap)]) 48)], oL.seg (HL.map hdA) 22, oW.seg (HL.map hdB) 22, oK.seg (HK.map hdA) 77, oY.seg (HK.map hdB) 77, p.a.seg zs 33, segA 33 (HL.drop (i + 1)), segB 33 HL, segA 30 HK, segB 30 HK]) (fun ⟨j, zs⟩ => []) [4, 16, 17, 18, 19, 20, 21, 22, 23, 24, 25, 26, 27, 28, 29, 30, 31, 32, 33, 34, 35, 36, 37] (0, p.xs) (⟨rfl, hpok.1⟩) ⟨rfl, trivial⟩ rfl rfl ?_
    rintro ⟨j, zs⟩ g2 hI2
    try dsimp only at hI2 ⊢
    refine c_seq ?_
    refine c_seq ?_
    refine c_reg ?_
    refine mv (.int _ _) rfl ?_
    refine mv (.pointer _) rfl ?_
    refine nlc rfl ?_
    refine fad rfl Try.underlying48 rfl ty45.sz ?_
    refine ldp 0 0 _ rfl rfl rfl rfl ty45 ?_
    refine mv (.int _ _) rfl ?_
    refine ixs ((oL).vs) (HL.map hdA) i (Ow.vs_ok hoL) rfl rfl rfl Try.underlying45 ty22.sz rfl (by simp at *; omega) ?_
    refine ldsoG 1 (hdA p) hoL rfl rfl rfl rfl (by simp [hp]) ty22 ?_
    refine j_re 23 (.slice p.a.adr p.xs.length p.a.cap) rfl ?_
    refine lenS rfl Try.underlying22 ?_
    refine cmp _ rfl rfl rfl ?_
    refine jt ?_
    refine c_cond rfl (fun h2 => ?_) (fun h2 => ?_)
    · replace h2 := of_decide_eq_true h2
      refine c_skip ?_
      refine e_then ?_
      refine c_seq ?_
      refine c_block ?_
      refine c_dr [_, _, _, _, _, _, _, _, _] [] [(0, 0), (1, 0), (2, 0), (3, 0), (4, 0), (5, 0), (6, 0), (7, 0), (8, 1), (9, 0), (10, 1)] follows (by kernel_rfl) calm_body (keepS [0, 1, 2, 3, 4, 6, 7, 8, 9] rfl) ?_
      refine mv (.pointer _) rfl ?_
      refine nlc rfl ?_
      refine fad rfl Try.underlying48 rfl ty45.sz ?_
      refine ldp 0 0 _ rfl rfl rfl rfl ty45 ?_
      refine mv (.int _ _) rfl ?_
      refine ixs ((oL).vs) (HL.map hdA) i (Ow.vs_ok hoL) rfl rfl rfl Try.underlying45 ty22.sz rfl (by simp at *; omega) ?_
      refine ldsoG 1 (hdA p) hoL rfl rfl rfl rfl (by simp [hp]) ty22 ?_
      refine mv (.int _ _) rfl ?_
      refine cal (mark_ct 9 (by omega)) [] [0, 1, 2, 3, 4, 5, 6, 7, 8, 9] [_, _, _, _, _, _, _, _, _, _] rfl rfl rfl (by kernel_rfl) impl_nil rfl ?_; rintro _ _ _ ⟨rfl, rfl, rfl⟩; refine ⟨keepI [0, 1, 2, 3, 4, 6, 7, 8, 9] rfl, ?_⟩
      refine ixs ((p.a).vs) zs j (Ow.vs_ok hI2.2) rfl hI2.1.symm rfl Try.underlying22 ty33.sz rfl (by omega) ?_
      refine sto 5 j (mk 9) hI2.2 rfl rfl rfl rfl rfl (by omega) ty33 ⟨keepI [0, 1, 2, 3, 4, 6, 7, 8, 9] rfl, ?_⟩
      refine jn ?_
      refine e_in ?_
      refine e_then ?_
      refine c_reg ?_
      refine mv (.int _ _) rfl ?_
      refine addi rfl rfl rfl (by omega) ?_
      refine asg (.int _ _) rfl ?_
      refine jn ?_
      exact e_loop (j + 1, zs.set j (mk 9)) (⟨by simp; omega, Ow.ok_set hI2.2 j (mk 9)⟩) (by (try dsimp only); omega) (⟨rfl, trivial⟩) rfl rfl rfl
    · replace h2 := of_decide_eq_false h2
      refine c_exit rfl ?_
      refine e_then ?_
      refine c_seq ?_
      refine c_dr [_, _, _, _, _, _, _, _, _] [] [(0, 0), (1, 0), (2, 0), (3, 0), (4, 0), (5, 0), (6, 0), (7, 1), (8, 1), (9, 1), (10, 1), (11, 1)] follows (by kernel_rfl) calm_body (keepS [0, 1, 2, 3, 4, 6, 7, 8, 9] rfl) ?_
      refine mv (.pointer _) rfl ?_
      refine nlc rfl ?_
      refine fad rfl Try.underlying48 rfl ty45.sz ?_
      refine ldp 0 0 _ rfl rfl rfl rfl ty45 ?_
      refine mv (.int _ _) rfl ?_
      refine ixs ((oL).vs) (HL.map hdA) i (Ow.vs_ok hoL) rfl rfl rfl Try.underlying45 ty22.sz rfl (by simp at *; omega) ?_
      refine ldsoG 1 (hdA p) hoL rfl rfl rfl rfl (by simp [hp]) ty22 ?_
      refine j_re 44 (.slice p.a.adr zs.length p.a.cap) (by rw [hI2.1]; rfl) ?_
      refine cal (mark_ct 8 (by omega)) [] [0, 1, 2, 3, 4, 5, 6, 7, 8, 9] [_, _, _, _, _, _, _, _, _, _] rfl rfl rfl (by kernel_rfl) impl_nil rfl ?_; rintro _ _ _ ⟨rfl, rfl, rfl⟩; refine ⟨keepI [0, 1, 2, 3, 4, 6, 7, 8, 9] rfl, ?_⟩
      refine cal (mark_ct 8 (by omega)) [] [0, 1, 2, 3, 4, 5, 6, 7, 8, 9] [_, _, _, _, _, _, _, _, _, _] rfl rfl rfl (by kernel_rfl) impl_nil rfl ?_; rintro _ _ _ ⟨rfl, rfl, rfl⟩; refine ⟨keepI [0, 1, 2, 3, 4, 6, 7, 8, 9] rfl, ?_⟩
      refine cal (mark_ct 8 (by omega)) [] [0, 1, 2, 3, 4, 5, 6, 7, 8, 9] [_, _, _, _, _, _, _, _, _, _] rfl rfl rfl (by kernel_rfl) impl_nil rfl ?_; rintro _ _ _ ⟨rfl, rfl, rfl⟩; refine ⟨keepI [0, 1, 2, 3, 4, 6, 7, 8, 9] rfl, ?_⟩
      refine bsl (α := Spare) ([(mk 8), (mk 8), (mk 8)]) Try.underlying22 ty33.sz rfl (by decide) z33 rfl fun b48 => ⟨keepI [0, 1, 2, 3, 4, 6, 7, 8, 9] rfl, ?_⟩
      refine app 5 p.a zs ([(mk 8), (mk 8), (mk 8)] : List Spare) hI2.2 rfl ⟨rfl, rfl, rfl⟩ rfl rfl (gives_own (ys := ([(mk 8), (mk 8), (mk 8)] : List Spare)) (pre := []) (post := []) 10 rfl (by simp) rfl) Try.underlying22 Try.underlying22 (.inl ⟨_, rfl⟩) ty33.sz by33 z33 rfl (by simp; omega) rfl fun o49_1 hk49_1 => ⟨keepI [0, 1, 2, 3, 4, 6, 7, 8, 9] rfl, ?_⟩
      refine jt ?_
      refine c_seq ?_
      refine c_reg ?_
      refine mv (.pointer _) rfl ?_
      refine mv (.int _ _) rfl ?_
      refine addi rfl rfl rfl (by omega) ?_
      refine j_re 52 (.int .i64 ((i + 1 : Nat) : Int)) (congrArg (Value.int .i64) (by omega)) ?_
      refine cal (kept_ct bsh oL oW oK oY HL HK hoL hoW hoK hoY hHL hHK (i + 1) 0 (by omega) (by omega) (by omega) (by omega)) [] [0, 1, 2, 3, 4, 5, 6, 7, 8, 9, 10] [_, _, _, _, _, _, _, _, _, _, _] rfl rfl rfl (by kernel_rfl) (impl_cons (impl_at 0 rfl) (impl_cons (impl_at 1 rfl) (impl_cons (impl_at 2 rfl) (impl_cons (impl_at 3 rfl) (impl_cons (impl_at 4 rfl) (impl_cons (impl_at 6 rfl) (impl_cons (implBd 7 (i + 1) rfl) (impl_cons (impl_at 8 rfl) (impl_cons (impl_at 9 rfl) impl_nil))))))))) rfl ?_; rintro _ _ _ ⟨rfl, rfl, rfl⟩; refine ⟨trivial, ?_⟩
      refine not_ rfl ?_
      refine jt ?_
      refine c_false rfl ?_
      refine c_skip ?_
      refine e_in ?_
      refine e_then ?_
      refine c_reg ?_
      refine mv (.int _ _) rfl ?_
      refine addi rfl rfl rfl (by omega) ?_
      refine asg (.int _ _) rfl ?_
      refine jn ?_
      refine e_keep [0, 1, 2, 3, 4, 6, 7, 8, 9] [5, 10] [_, _, _, _, _, _, _, _, _] rfl (by kernel_rfl) ?_
      exact e_lp (i + 1) (by repeat (first | exact out_self | refine out_hav (by kernel_rfl) ?_ | refine out_look (by kernel_rfl) ?_)) (by simp at *; omega) (by simp at *; omega) (⟨rfl, trivial⟩) rfl rfl rfl
  · replace h1 := of_decide_eq_false h1
    refine c_exit rfl ?_
    refine e_then ?_
    refine c_seq ?_
    refine c_seq ?_
    refine c_reg ?_
    refine asg (.int _ _) rfl ?_
    refine jt ?_
    refine c_block ?_
    refine c_loop (σ := Nat) (fun m => m ≤ HK.length) (fun m => HK.length - m) (fun m => [(5, .int .i64 (m : Int))]) (fun m => [[(bsh, .cells (cat [p1 (.slice oL.adr (HL.map hdA).length oL.cap), p1 (.slice oW.adr (HL.map hdB).length oW.cap), p1 (.slice oK.adr (HK.map hdA).length oK.cap), p1 (.slice oY.adr (HK.map hdB).length oY.cap)]) 48)], oL.seg (HL.map hdA) 22, oW.seg (HL.map hdB) 22, oK.seg (HK.map hdA) 77, oY.seg (HK.map hdB) 77, segA 33 (HL.drop i), segB 33 HL, segA 30 (HK.drop m), segB 30 HK]) (fun m => []) [2, 5, 6, 55, 56, 57, 58, 59, 60, 61, 62, 63, 64, 65, 66, 67, 68, 69, 70, 71, 72, 73, 74, 75, 76, 77, 78, 79, 80, 81, 82, 83, 84, 85, 86, 87, 88, 89, 90, 91, 92, 93, 94, 95, 96, 97, 98, 99, 100, 101, 102, 103, 104, 105, 106, 107, 108, 109, 110, 111] 0 (by omega) ⟨rfl, trivial⟩ rfl rfl ?_
    rintro m g3 hI3
    try dsimp only at hI3 ⊢
    refine c_seq ?_
    refine c_seq ?_
    refine c_reg ?_
    refine mv (.int _ _) rfl ?_
    refine mv (.pointer _) rfl ?_
    refine nlc rfl ?_
    refine fad rfl Try.underlying48 rfl ty46.sz ?_
    refine ldp 0 2 _ rfl rfl rfl rfl ty46 ?_
    refine lenS rfl Try.underlying46 ?_
    refine cmp _ rfl rfl rfl ?_
    refine jt ?_
    refine c_cond rfl (fun h3 => ?_) (fun h3 => ?_)
    · replace h3 := of_decide_eq_true h3
      refine c_skip ?_
      refine e_then ?_
      refine c_seq ?_
      refine c_block ?_
      refine c_seq ?_
      refine c_seq ?_
      obtain ⟨q, hq⟩ : ∃ q, HK[m]? = some q := ⟨HK[m]'(by simp at *; omega), List.getElem?_eq_getElem _⟩
      have hqok := hHK q (List.mem_of_getElem? hq)
      have hql := hqok.2.2
      refine c_part (own' := [[(bsh, .cells (cat [p1 (.slice oL.adr (HL.map hdA).length oL.cap), p1 (.slice oW.adr (HL.map hdB).length oW.cap), p1 (.slice oK.adr (HK.map hdA).length oK.cap), p1 (.slice oY.adr (HK.map hdB).length oY.cap)]) 48)], oL.seg (HL.map hdA) 22, oW.seg (HL.map hdB) 22, oK.seg (HK.map hdA) 77, oY.seg (HK.map hdB) 77, segA 33 (HL.drop i), segB 33 HL, q.a.seg q.xs 30, segA 30 (HK.drop (m + 1)), segB 30 HK]) (List.Perm.of_eq (by simp only [List.flatten_cons, segA_at hq, List.append_assoc])) ?_
      refine c_reg ?_
      refine asg (.int _ _) rfl ?_
      refine jt ?_
      refine c_block ?_
      refine c_loop (σ := Nat × List Key) (fun ⟨j, ys⟩ => ys.length = q.xs.length ∧ q.a.ok ys) (fun ⟨j, ys⟩ => q.xs.length - j) (fun ⟨j, ys⟩ => [(6, .int .i64 (j : Int))]) (fun ⟨j, ys⟩ => [[(bsh, .cells (cat [p1 (.slice oL.adr (HL.map hdA).length oL.cap), p1 (.slice oW.adr (HL.map hdB).length oW.cap), p1 (.slice oK.adr (HK.map hdA).length oK.cap), p1 (.slice oY.adr (HK.map hdB).length oY.cap)]) 48)], oL.seg (HL.map hdA) 22, oW.seg (HL.map hdB) 22, oK.seg (HK.map hdA) 77, oY.seg (HK.map hdB) 77, segA 33 (HL.drop i), segB 33 HL, q.a.seg ys 30, segA 30 (HK.drop (m + 1)), segB 30 HK]) (fun ⟨j, ys⟩ => []) [6, 64, 65, 66, 67, 68, 69, 70, 71, 72, 73, 74, 75, 76, 77, 78, 79, 80, 81, 82, 83, 84, 85, 86] (0, q.xs) (⟨rfl, hqok.1⟩) ⟨rfl, trivial⟩ rfl rfl ?_
      rintro ⟨j, ys⟩ g4 hI4
      try dsimp only at hI4 ⊢
      refine c_seq ?_
      refine c_seq ?_
      refine c_reg ?_
      refine mv (.int _ _) rfl ?_
      refine mv (.pointer _) rfl ?_
      refine nlc rfl ?_
      refine fad rfl Try.underlying48 rfl ty46.sz ?_
      refine ldp 0 2 _ rfl rfl rfl rfl ty46 ?_
      refine mv (.int _ _) rfl ?_
      refine ixs ((oK).vs) (HK.map hdA) m (Ow.vs_ok hoK) rfl rfl rfl Try.underlying46 ty77.sz rfl (by simp at *; omega) ?_
      refine ldsoG 3 (hdA q) hoK rfl rfl rfl rfl (by simp [hq]) ty77 ?_
      refine j_re 71 (.slice q.a.adr q.xs.length q.a.cap) rfl ?_
      refine lenS rfl Try.underlying77 ?_
      refine cmp _ rfl rfl rfl ?_
      refine jt ?_
      refine c_cond rfl (fun h4 => ?_) (fun h4 => ?_)
      · replace h4 := of_decide_eq_true h4
        refine c_skip ?_
        refine e_then ?_
        refine c_seq ?_
        refine c_block ?_
        refine c_dr [_, _, _, _, _, _, _, _, _] [] [(0, 0), (1, 0), (2, 0), (3, 0), (4, 0), (5, 0), (6, 0), (7, 0), (8, 1), (9, 0), (10, 0), (11, 1)] follows (by kernel_rfl) calm_body (keepS [0, 1, 2, 3, 4, 5, 6, 8, 9] rfl) ?_
        refine mv (.pointer _) rfl ?_
        refine nlc rfl ?_
        refine fad rfl Try.underlying48 rfl ty46.sz ?_
        refine ldp 0 2 _ rfl rfl rfl rfl ty46 ?_
        refine mv (.int _ _) rfl ?_
        refine ixs ((oK).vs) (HK.map hdA) m (Ow.vs_ok hoK) rfl rfl rfl Try.underlying46 ty77.sz rfl (by simp at *; omega) ?_
        refine ldsoG 3 (hdA q) hoK rfl rfl rfl rfl (by simp [hq]) ty77 ?_
        refine mv (.int _ _) rfl ?_
        refine cal (mark_ct 9 (by omega)) [] [0, 1, 2, 3, 4, 5, 6, 7, 8, 9] [_, _, _, _, _, _, _, _, _, _] rfl rfl rfl (by kernel_rfl) impl_nil rfl ?_; rintro _ _ _ ⟨rfl, rfl, rfl⟩; refine ⟨keepI [0, 1, 2, 3, 4, 5, 6, 8, 9] rfl, ?_⟩
        refine fld (i := 0) [pt ((mk 9).header), pt ((mk 9).n), pt ((mk 9).message)] rfl Try.underlying33 rfl rfl rfl ty30 ?_
        refine ixs ((q.a).vs) ys j (Ow.vs_ok hI4.2) rfl hI4.1.symm rfl Try.underlying77 ty30.sz rfl (by omega) ?_
        refine sto 7 j ((mk 9).header) hI4.2 rfl rfl rfl rfl rfl (by omega) ty30 ⟨keepI [0, 1, 2, 3, 4, 5, 6, 8, 9] rfl, ?_⟩
        refine jn ?_
        refine e_in ?_
        refine e_then ?_
        refine c_reg ?_
        refine mv (.int _ _) rfl ?_
        refine addi rfl rfl rfl (by omega) ?_
        refine asg (.int _ _) rfl ?_
        refine jn ?_
        exact e_loop (j + 1, ys.set j (mk 9).header) (⟨by simp; omega, Ow.ok_set hI4.2 j (mk 9).header⟩) (by (try dsimp only); omega) (⟨rfl, trivial⟩) rfl rfl rfl
      · replace h4 := of_decide_eq_false h4
        refine c_exit rfl ?_
        refine e_then ?_
        refine c_seq ?_
        refine c_dr [_, _, _, _, _, _, _, _, _] [] [(0, 0), (1, 0), (2, 0), (3, 0), (4, 0), (5, 0), (6, 0), (7, 1), (8, 0), (9, 1), (10, 0), (11, 1), (12, 0), (13, 1), (14, 1)] follows (by kernel_rfl) calm_body (keepS [0, 1, 2, 3, 4, 5, 6, 8, 9] rfl) ?_
        refine mv (.pointer _) rfl ?_
        refine nlc rfl ?_
        refine fad rfl Try.underlying48 rfl ty46.sz ?_
        refine ldp 0 2 _ rfl rfl rfl rfl ty46 ?_
        refine mv (.int _ _) rfl ?_
        refine ixs ((oK).vs) (HK.map hdA) m (Ow.vs_ok hoK) rfl rfl rfl Try.underlying46 ty77.sz rfl (by simp at *; omega) ?_
        refine ldsoG 3 (hdA q) hoK rfl rfl rfl rfl (by simp [hq]) ty77 ?_
        refine j_re 93 (.slice q.a.adr ys.length q.a.cap) (by rw [hI4.1]; rfl) ?_
        refine cal (mark_ct 8 (by omega)) [] [0, 1, 2, 3, 4, 5, 6, 7, 8, 9] [_, _, _, _, _, _, _, _, _, _] rfl rfl rfl (by kernel_rfl) impl_nil rfl ?_; rintro _ _ _ ⟨rfl, rfl, rfl⟩; refine ⟨keepI [0, 1, 2, 3, 4, 5, 6, 8, 9] rfl, ?_⟩
        refine fld (i := 0) [pt ((mk 8).header), pt ((mk 8).n), pt ((mk 8).message)] rfl Try.underlying33 rfl rfl rfl ty30 ?_
        refine cal (mark_ct 8 (by omega)) [] [0, 1, 2, 3, 4, 5, 6, 7, 8, 9] [_, _, _, _, _, _, _, _, _, _] rfl rfl rfl (by kernel_rfl) impl_nil rfl ?_; rintro _ _ _ ⟨rfl, rfl, rfl⟩; refine ⟨keepI [0, 1, 2, 3, 4, 5, 6, 8, 9] rfl, ?_⟩
        refine fld (i := 0) [pt ((mk 8).header), pt ((mk 8).n), pt ((mk 8).message)] rfl Try.underlying33 rfl rfl rfl ty30 ?_
        refine cal (mark_ct 8 (by omega)) [] [0, 1, 2, 3, 4, 5, 6, 7, 8, 9] [_, _, _, _, _, _, _, _, _, _] rfl rfl rfl (by kernel_rfl) impl_nil rfl ?_; rintro _ _ _ ⟨rfl, rfl, rfl⟩; refine ⟨keepI [0, 1, 2, 3, 4, 5, 6, 8, 9] rfl, ?_⟩
        refine fld (i := 0) [pt ((mk 8).header), pt ((mk 8).n), pt ((mk 8).message)] rfl Try.underlying33 rfl rfl rfl ty30 ?_
        refine bsl (α := Key) ([(mk 8).header, (mk 8).header, (mk 8).header]) Try.underlying77 ty30.sz rfl (by decide) z30 rfl fun b100 => ⟨keepI [0, 1, 2, 3, 4, 5, 6, 8, 9] rfl, ?_⟩
        refine app 7 q.a ys ([(mk 8).header, (mk 8).header, (mk 8).header] : List Key) hI4.2 rfl ⟨rfl, rfl, rfl⟩ rfl rfl (gives_own (ys := ([(mk 8).header, (mk 8).header, (mk 8).header] : List Key)) (pre := []) (post := []) 10 rfl (by simp) rfl) Try.underlying77 Try.underlying77 (.inl ⟨_, rfl⟩) ty30.sz by30 z30 rfl (by simp; omega) rfl fun o101_2 hk101_2 => ⟨keepI [0, 1, 2, 3, 4, 5, 6, 8, 9] rfl, ?_⟩
        refine jt ?_
        refine c_seq ?_
        refine c_reg ?_
        refine mv (.pointer _) rfl ?_
        refine mv (.pointer _) rfl ?_
        refine nlc rfl ?_
        refine fad rfl Try.underlying48 rfl ty45.sz ?_
        refine ldp 0 0 _ rfl rfl rfl rfl ty45 ?_
        refine lenS rfl Try.underlying45 ?_
        refine j_re 107 (.int .i64 (HL.length : Int)) (congrArg (Value.int .i64) (by omega)) ?_
        refine mv (.int _ _) rfl ?_
        refine addi rfl rfl rfl (by omega) ?_
        refine j_re 109 (.int .i64 ((m + 1 : Nat) : Int)) (congrArg (Value.int .i64) (by omega)) ?_
        refine cal (kept_ct bsh oL oW oK oY HL HK hoL hoW hoK hoY hHL hHK HL.length (m + 1) (by omega) (by omega) (by omega) (by omega)) [] [0, 1, 2, 3, 4, 5, 6, 7, 8, 9, 10] [_, _, _, _, _, _, _, _, _, _, _] rfl rfl rfl (by kernel_rfl) (impl_cons (impl_at 0 rfl) (impl_cons (impl_at 1 rfl) (impl_cons (impl_at 2 rfl) (impl_cons (impl_at 3 rfl) (impl_cons (impl_at 4 rfl) (impl_cons (implA0 (by omega)) (impl_cons (implBd 6 HL.length rfl) (impl_cons (impl_at 8 rfl) (impl_cons (implBd 9 (m + 1) rfl) impl_nil))))))))) rfl ?_; rintro _ _ _ ⟨rfl, rfl, rfl⟩; refine ⟨trivial, ?_⟩
        refine not_ rfl ?_
        refine jt ?_
        refine c_false rfl ?_
        refine c_skip ?_
        refine e_in ?_
        refine e_then ?_
        refine c_reg ?_
        refine mv (.int _ _) rfl ?_
        refine addi rfl rfl rfl (by omega) ?_
        refine asg (.int _ _) rfl ?_
        refine jn ?_
        refine e_keep [0, 1, 2, 3, 4, 5, 6, 8, 9] [7, 10] [_, _, _, _, _, _, _, _, _] rfl (by kernel_rfl) ?_
        exact e_lp (m + 1) (by repeat (first | exact out_self | refine out_hav (by kernel_rfl) ?_ | refine out_look (by kernel_rfl) ?_)) (by simp at *; omega) (by simp at *; omega) (⟨rfl, trivial⟩) rfl rfl rfl
    · replace h3 := of_decide_eq_false h3
      refine c_exit rfl ?_
      refine e_then ?_
      refine c_seq ?_
      refine c_reg ?_
      refine asg (.bool _) rfl ?_
      refine jt ?_
      refine c_ret ?_
      exact j_end (own0 := [[(bsh, .cells (cat [p1 (.slice oL.adr (HL.map hdA).length oL.cap), p1 (.slice oW.adr (HL.map hdB).length oW.cap), p1 (.slice oK.adr (HK.map hdA).length oK.cap), p1 (.slice oY.adr (HK.map hdB).length oY.cap)]) 48)], oL.seg (HL.map hdA) 22, oW.seg (HL.map hdB) 22, oK.seg (HK.map hdA) 77, oY.seg (HK.map hdB) 77, segA 33 HL, segB 33 HL, segA 30 HK, segB 30 HK]) (ro0 := []) (.inl rfl) rfl (hr1 Try.results28 (rvt (v := (.bool _)) rfl)) [0, 1, 2, 3, 4] [5, 6, 7, 8] [_, _, _, _, _] [_, _, _, _] [] _ rfl rfl (by kernel_rfl) rfl impl_nil (⟨rfl, rfl, rfl⟩)
end Go.Proofs.Ytacfjmjcgolhfaa
