/- Contracts of the program's functions, walked. No condition. -/
import Derived.Test.YtacfjmjcgolhfaaA14
namespace Go.Proofs.Ytacfjmjcgolhfaa
open Go Go.Proofs Go.PW
open Go.PW.Enc (enc val)
theorem ty24 : Ty Try.prog 24 1 false := ⟨by kernel_rfl, by kernel_rfl⟩
theorem ty38 : Ty Try.prog 38 1 false := ⟨by kernel_rfl, by kernel_rfl⟩
def sn (l : List Spare) (k j : Nat) : Bool := decide (((l[k]?).map (·.header)) ∈ (l.take j).map fun s => some s.header)
theorem sn_zero {l : List Spare} {k : Nat} : sn l k 0 = false := by simp [sn]
theorem sn_next {l : List Spare} {k j : Nat} (hk : k < l.length) (hj : j < l.length) : sn l k (j + 1) = (sn l k j || decide (l[j].header = l[k].header)) := by
  unfold sn
  rw [List.take_succ_eq_append_getElem hj, List.map_append, Bool.eq_iff_iff]
  simp only [List.mem_append, Bool.or_eq_true, decide_eq_true_iff, List.getElem?_eq_getElem hk, Option.map_some, List.map_cons, List.map_nil, List.mem_singleton, Option.some.injEq]
  exact or_congr Iff.rfl ⟨fun h => h.symm, fun h => h.symm⟩
theorem sn_iff {l : List Spare} {k j : Nat} (hk : k < l.length) (hj : k ≤ j) (hj2 : j ≤ k) : sn l k j = true ↔ l[k].header ∈ hdrs (l.take k) := by
  obtain rfl : j = k := by omega
  unfold sn
  rw [decide_eq_true_iff, hdrs_mem, List.getElem?_eq_getElem hk]
  simp only [Option.map_some, List.mem_map, Option.some.injEq]
theorem hdrs_new2 {l : List Spare} {k j : Nat} (hk : k < l.length) (hj : k ≤ j) (h3 : (!sn l k j) = true) (hj2 : j ≤ k) : hdrs (l.take (k + 1)) = hdrs (l.take k) ++ [l[k].header] := by
  rw [hdrs_step hk]; unfold hd1
  rw [if_neg fun e => by rw [(sn_iff hk hj hj2).2 e] at h3; cases h3]
theorem hdrs_old2 {l : List Spare} {k j : Nat} (hk : k < l.length) (hj : k ≤ j) (h3 : (!sn l k j) = false) (hj2 : j ≤ k) : hdrs (l.take (k + 1)) = hdrs (l.take k) := by
  rw [hdrs_step hk]; unfold hd1
  rw [if_pos ((sn_iff hk hj hj2).1 (by simpa using h3))]

set_option maxRecDepth 20000 in
set_option maxHeartbeats 4000000 in
theorem RHeaders_ct (br : Nat) (o : Ow) (most : Int) (l : List Spare) (ho : o.ok l) (hl : l.length ≤ 2000) : Ct Try.prog 36 [.pointer (some ⟨br, 0, none⟩)] [] [[(br, .cells (cat [p1 (.int .i64 most), p1 (.slice o.adr l.length o.cap)]) 87)], o.seg l 33] (fun v o r => ∃ o' : Ow, o'.ok (hdrs l) ∧ v = .slice o'.adr (hdrs l).length o'.cap ∧ o = [o'.seg (hdrs l) 30] ∧ r = []) := by
  refine ct_enter Try.func36 rfl Try.ntmps36 (by kernel_rfl) rfl fun w0 => ?_
  refine c_seq ?_
  refine c_reg ?_
  refine asg (.slice _ _ _) rfl ?_
  refine jt ?_
  refine c_seq ?_
  refine c_reg ?_
  refine asg (.slice _ _ _) rfl ?_
  refine jt ?_
  refine c_seq ?_
  refine c_seq ?_
  refine c_reg ?_
  refine asg (.int _ _) rfl ?_
  refine jt ?_
  refine c_block ?_
  refine c_addE ?_
  refine c_loop (σ := Nat × Ow) (fun ⟨k, o2⟩ => k ≤ l.length ∧ o2.ok (hdrs (l.take k))) (fun ⟨k, o2⟩ => l.length - k) (fun ⟨k, o2⟩ => [(4, .int .i64 (k : Int)), (3, .slice o2.adr (hdrs (l.take k)).length o2.cap)]) (fun ⟨k, o2⟩ => [o2.seg (hdrs (l.take k)) 30]) (fun ⟨k, o2⟩ => [[(br, .cells (cat [p1 (.int .i64 most), p1 (.slice o.adr l.length o.cap)]) 87)], o.seg l 33]) [3, 4, 5, 6, 7, 8, 9, 10, 11, 12, 13, 14, 15, 16, 17, 18, 19, 20, 21, 22, 23, 24, 25, 26, 27, 28, 29, 30, 31, 32, 33, 34, 35, 36, 37, 38, 39, 40, 41, 42, 43, 44, 45, 46, 47, 48, 49, 50, 51, 52, 53] (⟨0, Ow.nil⟩) (⟨by omega, by simpa [hdrs] using Ow.nil_ok⟩) ⟨rfl, rfl, trivial⟩ rfl rfl ?_
  rintro ⟨k, o2⟩ g1 hI1
  try dsimp only at hI1 ⊢
  refine c_seq ?_
  refine c_seq ?_
  refine c_reg ?_
  refine mv (.int _ _) rfl ?_
  refine mv (.pointer _) rfl ?_
  refine nlc rfl ?_
  refine fad rfl Try.underlying87 rfl ty22.sz ?_
  refine ldp 1 1 _ rfl rfl rfl rfl ty22 ?_
  refine lenS rfl Try.underlying22 ?_
  refine cmp _ rfl rfl rfl ?_
  refine jt ?_
  refine c_cond rfl (fun h1 => ?_) (fun h1 => ?_)
  · replace h1 := of_decide_eq_true h1
    refine c_skip ?_
    refine e_then ?_
    refine c_seq ?_
    refine c_block ?_
    refine c_seq ?_
    refine c_reg ?_
    refine asg (.bool _) rfl ?_
    refine jt ?_
    refine c_seq ?_
    refine c_seq ?_
    refine c_reg ?_
    refine asg (.int _ _) rfl ?_
    refine jt ?_
    refine c_block ?_
    refine c_loop (σ := Nat) (fun j => j ≤ k) (fun j => k - j) (fun j => [(6, .int .i64 (j : Int)), (5, .bool (sn l k j))]) (fun j => [o2.seg (hdrs (l.take k)) 30]) (fun j => [[(br, .cells (cat [p1 (.int .i64 most), p1 (.slice o.adr l.length o.cap)]) 87)], o.seg l 33]) [5, 6, 16, 17, 18, 19, 20, 21, 22, 23, 24, 25, 26, 27, 28, 29, 30, 31, 32, 33, 34, 35, 36, 37, 38, 39, 40] 0 (by omega) ⟨rfl, (by rw [sn_zero]; rfl), trivial⟩ rfl rfl ?_
    rintro j g2 hI2
    try dsimp only at hI2 ⊢
    refine c_seq ?_
    refine c_seq ?_
    refine c_reg ?_
    refine mv (.int _ _) rfl ?_
    refine mv (.int _ _) rfl ?_
    refine cmp _ rfl rfl rfl ?_
    refine jt ?_
    refine c_cond rfl (fun h2 => ?_) (fun h2 => ?_)
    · replace h2 := of_decide_eq_true h2
      refine c_skip ?_
      refine e_then ?_
      refine c_seq ?_
      refine c_block ?_
      refine c_dr [_, _, _] [] [(0, 0), (1, 0), (2, 0), (3, 0), (4, 0), (5, 0), (6, 0), (7, 0), (8, 0), (9, 0), (10, 0), (11, 0), (12, 0), (13, 0), (14, 0), (15, 0), (16, 0), (17, 0), (18, 0), (19, 0), (20, 0)] follows (by kernel_rfl) calm_body (keepS [0, 1, 2] rfl) ?_
      refine mv (.bool _) rfl ?_
      refine mv (.bool _) rfl ?_
      refine jsplit 22 rfl (fun h3 => ?_) (fun h3 => ?_)
      · refine g_off rfl rfl rfl rfl ?_
        refine g_off rfl rfl rfl rfl ?_
        refine g_off rfl rfl rfl rfl ?_
        refine g_off rfl rfl rfl rfl ?_
        refine g_off rfl rfl rfl rfl ?_
        refine g_off rfl rfl rfl rfl ?_
        refine g_off rfl rfl rfl rfl ?_
        refine g_off rfl rfl rfl rfl ?_
        refine g_off rfl rfl rfl rfl ?_
        refine g_off rfl rfl rfl rfl ?_
        refine g_off rfl rfl rfl rfl ?_
        refine g_off rfl rfl rfl rfl ?_
        refine g_off rfl rfl rfl rfl ?_
        refine g_off rfl rfl rfl rfl ?_
        refine g_off rfl rfl rfl rfl ?_
        refine g_off rfl rfl rfl rfl ?_
        refine g_off rfl rfl rfl rfl ?_
        refine pkt (.bool _) rfl rfl ?_
        refine asg (.bool _) rfl ?_
        refine jn ?_
        refine e_in ?_
        refine e_then ?_
        refine c_reg ?_
        refine mv (.int _ _) rfl ?_
        refine addi rfl rfl rfl (by omega) ?_
        refine asg (.int _ _) rfl ?_
        refine jn ?_
        exact e_loop (j + 1) (by omega) (by (try dsimp only); omega) (⟨rfl, congrArg Value.bool (by rw [sn_next (show k < l.length by omega) (show j < l.length by omega)]; simp [*]), trivial⟩) rfl rfl rfl
      · refine g_on rfl rfl rfl ?_
        refine mv (.pointer _) rfl ?_
        refine g_on rfl rfl rfl ?_
        refine nlc rfl ?_
        refine g_on rfl rfl rfl ?_
        refine fad rfl Try.underlying87 rfl ty22.sz ?_
        refine g_on rfl rfl rfl ?_
        refine ldp 1 1 _ rfl rfl rfl rfl ty22 ?_
        refine g_on rfl rfl rfl ?_
        refine mv (.int _ _) rfl ?_
        refine g_on rfl rfl rfl ?_
        refine ixs ((o).vs) l j (Ow.vs_ok ho) rfl rfl rfl Try.underlying22 ty33.sz rfl (by first | omega | (simp; done) | (simp; omega) | (simp at *; omega)) ?_
        refine g_on rfl rfl rfl ?_
        refine fad rfl Try.underlying33 rfl ty30.sz ?_
        refine g_on rfl rfl rfl ?_
        refine ldsof 2 _ 0 ho rfl rfl rfl (by first | omega | (simp; done) | (simp; omega) | (simp at *; omega)) rfl rfl ty30 ?_
        refine g_on rfl rfl rfl ?_
        refine mv (.pointer _) rfl ?_
        refine g_on rfl rfl rfl ?_
        refine nlc rfl ?_
        refine g_on rfl rfl rfl ?_
        refine fad rfl Try.underlying87 rfl ty22.sz ?_
        refine g_on rfl rfl rfl ?_
        refine ldp 1 1 _ rfl rfl rfl rfl ty22 ?_
        refine g_on rfl rfl rfl ?_
        refine mv (.int _ _) rfl ?_
        refine g_on rfl rfl rfl ?_
        refine ixs ((o).vs) l k (Ow.vs_ok ho) rfl rfl rfl Try.underlying22 ty33.sz rfl (by first | omega | (simp; done) | (simp; omega) | (simp at *; omega)) ?_
        refine g_on rfl rfl rfl ?_
        refine fad rfl Try.underlying33 rfl ty30.sz ?_
        refine g_on rfl rfl rfl ?_
        refine ldsof 2 _ 0 ho rfl rfl rfl (by first | omega | (simp; done) | (simp; omega) | (simp at *; omega)) rfl rfl ty30 ?_
        refine g_on rfl rfl rfl ?_
        refine eqA (l[j].header) (l[k].header) _ rfl rfl rfl rfl eq30 rfl Try.eqGuardType30 rfl ?_
        refine pkf (.bool _) rfl rfl ?_
        refine asg (.bool _) rfl ?_
        refine jn ?_
        refine e_in ?_
        refine e_then ?_
        refine c_reg ?_
        refine mv (.int _ _) rfl ?_
        refine addi rfl rfl rfl (by omega) ?_
        refine asg (.int _ _) rfl ?_
        refine jn ?_
        exact e_loop (j + 1) (by omega) (by (try dsimp only); omega) (⟨rfl, congrArg Value.bool (by rw [sn_next (show k < l.length by omega) (show j < l.length by omega)]; simp [*]), trivial⟩) rfl rfl rfl
    · replace h2 := of_decide_eq_false h2
      refine c_exit rfl ?_
      refine e_then ?_
      refine c_seq ?_
      refine c_reg ?_
      refine mv (.bool _) rfl ?_
      refine not_ rfl ?_
      refine jt ?_
      refine c_cond rfl (fun h4 => ?_) (fun h4 => ?_)
      · refine c_reg ?_
        refine mv (.slice _ _ _) rfl ?_
        refine mv (.pointer _) rfl ?_
        refine nlc rfl ?_
        refine fad rfl Try.underlying87 rfl ty22.sz ?_
        refine ldp 1 1 _ rfl rfl rfl rfl ty22 ?_
        refine mv (.int _ _) rfl ?_
        refine ixs ((o).vs) l k (Ow.vs_ok ho) rfl rfl rfl Try.underlying22 ty33.sz rfl (by first | omega | (simp; done) | (simp; omega) | (simp at *; omega)) ?_
        refine fad rfl Try.underlying33 rfl ty30.sz ?_
        refine ldsof 2 _ 0 ho rfl rfl rfl (by first | omega | (simp; done) | (simp; omega) | (simp at *; omega)) rfl rfl ty30 ?_
        refine bsl (α := Key) ([l[k].header]) Try.underlying77 ty30.sz rfl (by decide) z30 rfl fun b52 => ⟨trivial, ?_⟩
        refine app 0 o2 (hdrs (l.take k)) ([l[k].header] : List Key) hI1.2 rfl ⟨rfl, rfl, rfl⟩ rfl rfl (gives_own (ys := ([l[k].header] : List Key)) (pre := []) (post := []) 1 rfl (by simp) rfl) Try.underlying77 Try.underlying77 (.inl ⟨_, rfl⟩) ty30.sz by30 z30 rfl (by have := hdrs_le (l.take k); simp at this ⊢; omega) rfl fun o53_1 hk53_1 => ⟨trivial, ?_⟩
        refine asg (.slice _ _ _) rfl ?_
        refine jn ?_
        refine e_in ?_
        refine e_then ?_
        refine c_reg ?_
        refine mv (.int _ _) rfl ?_
        refine addi rfl rfl rfl (by omega) ?_
        refine asg (.int _ _) rfl ?_
        refine jn ?_
        refine e_keep [0] [1] [_] rfl (by kernel_rfl) ?_
        have hhn := hdrs_new2 (show k < l.length by omega) (show k ≤ j by omega) h4 (show j ≤ k by omega)
        rw [← hhn] at hk53_1
        exact e_lp (⟨k + 1, o53_1⟩ : Nat × Ow) (by repeat (first | exact out_self | refine out_hav (by kernel_rfl) ?_ | refine out_look (by kernel_rfl) ?_)) (⟨by omega, hk53_1⟩) (by (try dsimp only); omega) (by simp only [hhn]; exact ⟨rfl, rfl, trivial⟩) rfl (by simp only [hhn] <;> rfl) rfl
      · refine c_skip ?_
        refine e_in ?_
        refine e_then ?_
        refine c_reg ?_
        refine mv (.int _ _) rfl ?_
        refine addi rfl rfl rfl (by omega) ?_
        refine asg (.int _ _) rfl ?_
        refine jn ?_
        have hhn := hdrs_old2 (show k < l.length by omega) (show k ≤ j by omega) h4 (show j ≤ k by omega)
        have hok2 := hI1.2
        rw [← hhn] at hok2
        exact e_lp (⟨k + 1, o2⟩ : Nat × Ow) (by repeat (first | exact out_self | refine out_hav (by kernel_rfl) ?_ | refine out_look (by kernel_rfl) ?_)) (⟨by omega, hok2⟩) (by (try dsimp only); omega) (by simp only [hhn]; exact ⟨rfl, rfl, trivial⟩) rfl (by simp only [hhn] <;> rfl) rfl
  · replace h1 := of_decide_eq_false h1
    refine c_exit rfl ?_
    refine e_then ?_
    refine c_seq ?_
    refine c_reg ?_
    refine mv (.slice _ _ _) rfl ?_
    refine asg (.slice _ _ _) rfl ?_
    refine jt ?_
    refine c_ret ?_
    exact j_end (own0 := []) (ro0 := [[(br, .cells (cat [p1 (.int .i64 most), p1 (.slice o.adr l.length o.cap)]) 87)], o.seg l 33]) (.inl rfl) rfl (hr1 Try.results36 (rvt (v := (.slice _ _ _)) rfl)) [0] [] [_] [] [] _ rfl rfl (by kernel_rfl) rfl impl_nil (⟨o2, by simpa [show l.take k = l from List.take_of_length_le (by omega)] using hI1.2, by rw [show l.take k = l from List.take_of_length_le (by omega)], by rw [show l.take k = l from List.take_of_length_le (by omega)], rfl⟩)
end Go.Proofs.Ytacfjmjcgolhfaa
