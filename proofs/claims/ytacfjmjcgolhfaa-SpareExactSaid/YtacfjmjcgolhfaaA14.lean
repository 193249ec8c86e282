/- Contracts of the program's functions, walked. No condition. -/
import Derived.Test.YtacfjmjcgolhfaaA13
namespace Go.Proofs.Ytacfjmjcgolhfaa
open Go Go.Proofs Go.PW
open Go.PW.Enc (enc val)
theorem ty45 : Ty Try.prog 45 1 false := ⟨by kernel_rfl, by kernel_rfl⟩
theorem z22 : Zt Try.prog 22 ((p1 (.slice none 0 0)).v) := by unfold Zt; kernel_rfl
theorem by22 : (Try.prog.info? 22).map (·.bytes) = some 24 := by kernel_rfl
theorem ty46 : Ty Try.prog 46 1 false := ⟨by kernel_rfl, by kernel_rfl⟩
theorem ty77 : Ty Try.prog 77 1 false := ⟨by kernel_rfl, by kernel_rfl⟩
theorem z77 : Zt Try.prog 77 ((p1 (.slice none 0 0)).v) := by unfold Zt; kernel_rfl
theorem by77 : (Try.prog.info? 77).map (·.bytes) = some 24 := by kernel_rfl

theorem sameKeys_ct (s t : Vs) (xs ys : List Key) (hs : s.ok xs) (ht : t.ok ys) (hx : xs.length ≤ 9223372036854775806) : Ct Try.prog 35 [s.v xs.length, t.v ys.length] [] [s.seg xs, t.seg ys] (fun v o r => v = .bool (decide (xs = ys)) ∧ o = [] ∧ r = []) := by
  refine ct_enter Try.func35 rfl Try.ntmps35 (by kernel_rfl) rfl fun w0 => ?_
  refine c_seq ?_
  refine c_reg ?_
  refine asg (.bool _) rfl ?_
  refine jt ?_
  refine c_seq ?_
  refine c_seq ?_
  refine c_reg ?_
  refine mv (.slice _ _ _) rfl ?_
  refine lenS rfl Try.underlying77 ?_
  refine mv (.slice _ _ _) rfl ?_
  refine lenS rfl Try.underlying77 ?_
  refine cmp _ rfl rfl rfl ?_
  refine jt ?_
  refine c_cond rfl (fun h1 => ?_) (fun h1 => ?_)
  · replace h1 := ndt h1
    refine c_seq ?_
    refine c_reg ?_
    refine asg (.bool _) rfl ?_
    refine jt ?_
    refine c_ret ?_
    exact j_end (own0 := []) (ro0 := [s.seg xs, t.seg ys]) (.inl rfl) rfl (hr1 Try.results35 (rvt (v := (.bool _)) rfl)) [] [] [] [] [] _ rfl rfl (by kernel_rfl) rfl impl_nil (⟨by simp [show xs ≠ ys from fun e => by subst e; exact h1 rfl], rfl, rfl⟩)
  · replace h1 := ndf h1
    refine c_skip ?_
    refine e_then ?_
    refine c_seq ?_
    refine c_seq ?_
    refine c_reg ?_
    refine asg (.int _ _) rfl ?_
    refine jt ?_
    refine c_block ?_
    refine c_loop (σ := Nat) (fun k => k ≤ xs.length ∧ xs.length = ys.length ∧ xs.take k = ys.take k) (fun k => xs.length - k) (fun k => [(5, .int .i64 (k : Int))]) (fun k => []) (fun k => [s.seg xs, t.seg ys]) [4, 5, 11, 12, 13, 14, 15, 16, 17, 18, 19, 20, 21, 22, 23, 24, 25] 0 (⟨by omega, by omega, by simp⟩) ⟨rfl, trivial⟩ rfl rfl ?_
    rintro k g1 hI1
    try dsimp only at hI1 ⊢
    refine c_seq ?_
    refine c_seq ?_
    refine c_reg ?_
    refine mv (.int _ _) rfl ?_
    refine mv (.slice _ _ _) rfl ?_
    refine lenS rfl Try.underlying77 ?_
    refine cmp _ rfl rfl rfl ?_
    refine jt ?_
    refine c_cond rfl (fun h2 => ?_) (fun h2 => ?_)
    · replace h2 := of_decide_eq_true h2
      refine c_skip ?_
      refine e_then ?_
      refine c_seq ?_
      refine c_block ?_
      refine c_seq ?_
      refine c_dr [_, _] [] [(0, 0), (1, 0), (2, 0), (3, 0), (4, 0), (5, 0), (6, 0), (7, 0), (8, 0)] follows (by kernel_rfl) calm_body (keepS [0, 1] rfl) ?_
      refine mv (.slice _ _ _) rfl ?_
      refine mv (.int _ _) rfl ?_
      refine ixs s xs k hs rfl rfl rfl Try.underlying77 ty30.sz rfl (by first | omega | (simp; done) | (simp; omega) | (simp at *; omega)) ?_
      refine ldvs 0 _ hs rfl rfl rfl rfl (by first | omega | (simp; done) | (simp; omega) | (simp at *; omega)) ty30 ?_
      refine mv (.slice _ _ _) rfl ?_
      refine mv (.int _ _) rfl ?_
      refine ixs t ys k ht rfl rfl rfl Try.underlying77 ty30.sz rfl (by first | omega | (simp; done) | (simp; omega) | (simp at *; omega)) ?_
      refine ldvs 1 _ ht rfl rfl rfl rfl (by first | omega | (simp; done) | (simp; omega) | (simp at *; omega)) ty30 ?_
      refine eqA (xs[k]) (ys[k]) _ rfl rfl rfl rfl eq30 rfl Try.eqGuardType30 rfl ?_
      refine jt ?_
      refine c_cond rfl (fun h3 => ?_) (fun h3 => ?_)
      · replace h3 := ndt h3
        refine c_seq ?_
        refine c_reg ?_
        refine asg (.bool _) rfl ?_
        refine jt ?_
        refine c_ret ?_
        exact j_end (own0 := []) (ro0 := [s.seg xs, t.seg ys]) (.inl rfl) rfl (hr1 Try.results35 (rvt (v := (.bool _)) rfl)) [] [] [] [] [] _ rfl rfl (by kernel_rfl) rfl impl_nil (⟨by simp [show xs ≠ ys from fun e => h3 (by subst e; rfl)], rfl, rfl⟩)
      · replace h3 := ndf h3
        refine c_skip ?_
        refine e_in ?_
        refine e_then ?_
        refine c_reg ?_
        refine mv (.int _ _) rfl ?_
        refine addi rfl rfl rfl (by omega) ?_
        refine asg (.int _ _) rfl ?_
        refine jn ?_
        exact e_loop (k + 1) (⟨by omega, hI1.2.1, take_next (by omega) (by omega) hI1.2.2 h3⟩) (by (try dsimp only); omega) (⟨rfl, trivial⟩) rfl rfl rfl
    · replace h2 := of_decide_eq_false h2
      refine c_exit rfl ?_
      refine e_then ?_
      refine c_seq ?_
      refine c_reg ?_
      refine asg (.bool _) rfl ?_
      refine jt ?_
      refine c_ret ?_
      exact j_end (own0 := []) (ro0 := [s.seg xs, t.seg ys]) (.inl rfl) rfl (hr1 Try.results35 (rvt (v := (.bool _)) rfl)) [] [] [] [] [] _ rfl rfl (by kernel_rfl) rfl impl_nil (⟨by simp [take_all_eq (show xs.length ≤ k by omega) hI1.2.1 hI1.2.2], rfl, rfl⟩)

theorem sameKeys_self (s t : Vs) (xs : List Key) (hs : s.ok xs) (ht : t.ok xs) (hx : xs.length ≤ 9223372036854775806) : Ct Try.prog 35 [s.v xs.length, t.v xs.length] [] [s.seg xs, t.seg xs] (fun v o r => v = .bool true ∧ o = [] ∧ r = []) :=
  (sameKeys_ct s t xs xs hs ht hx).mono fun v o r h => ⟨by rw [h.1]; simp, h.2⟩

theorem shList_ct (bsh : Nat) (oL oW oK oY : Ow) (hL hW hK hY : List SlH) (hoL : oL.ok hL) (hoW : oW.ok hW) (hbL : hL.length ≤ 5864062014000) (hbW : hW.length ≤ 5864062014000) (s : Vs) (xs : List Spare) (hs : s.ok xs) (hx : xs.length ≤ 1000000000) : Ct Try.prog 39 [.pointer (some ⟨bsh, 0, none⟩), s.v xs.length] [[(bsh, .cells (cat [p1 (.slice oL.adr hL.length oL.cap), p1 (.slice oW.adr hW.length oW.cap), p1 (.slice oK.adr hK.length oK.cap), p1 (.slice oY.adr hY.length oY.cap)]) 48)], oL.seg hL 22, oW.seg hW 22] [s.seg xs] (fun v w r => ∃ oL' oW' o2 : Ow, oL'.ok (hL ++ [(⟨s.adr, xs.length, s.cap⟩ : SlH)]) ∧ oW'.ok (hW ++ [(⟨o2.adr, xs.length, o2.cap⟩ : SlH)]) ∧ o2.ok xs ∧ v = .tuple #[] ∧ w = [[(bsh, .cells (cat [p1 (.slice oL'.adr (hL ++ [(⟨s.adr, xs.length, s.cap⟩ : SlH)]).length oL'.cap), p1 (.slice oW'.adr (hW ++ [(⟨o2.adr, xs.length, o2.cap⟩ : SlH)]).length oW'.cap), p1 (.slice oK.adr hK.length oK.cap), p1 (.slice oY.adr hY.length oY.cap)]) 48)], oL'.seg (hL ++ [(⟨s.adr, xs.length, s.cap⟩ : SlH)]) 22, oW'.seg (hW ++ [(⟨o2.adr, xs.length, o2.cap⟩ : SlH)]) 22, o2.seg xs 33] ∧ r = []) := by
  refine ct_enter Try.func39 rfl Try.ntmps39 (by kernel_rfl) rfl fun w0 => ?_
  refine c_seq ?_
  refine c_reg ?_
  refine mv (.pointer _) rfl ?_
  refine mv (.pointer _) rfl ?_
  refine nlc rfl ?_
  refine fad rfl Try.underlying48 rfl ty45.sz ?_
  refine ldp 0 0 _ rfl rfl rfl rfl ty45 ?_
  refine mv (.slice _ _ _) rfl ?_
  refine bsl (α := SlH) ([(⟨s.adr, xs.length, s.cap⟩ : SlH)]) Try.underlying45 ty22.sz rfl (by decide) z22 rfl fun b10 => ⟨trivial, ?_⟩
  refine app 1 oL hL ([(⟨s.adr, xs.length, s.cap⟩ : SlH)] : List SlH) hoL rfl ⟨rfl, rfl, rfl⟩ rfl rfl (gives_own (ys := ([(⟨s.adr, xs.length, s.cap⟩ : SlH)] : List SlH)) (pre := []) (post := []) 3 rfl (by simp) rfl) Try.underlying45 Try.underlying45 (.inl ⟨_, rfl⟩) ty22.sz by22 z22 rfl (by simp; omega) rfl fun o11_1 hk11_1 => ⟨trivial, ?_⟩
  refine nlc rfl ?_
  refine fad rfl Try.underlying48 rfl ty45.sz ?_
  refine stp 0 0 _ (p1 (.slice _ _ _)) rfl rfl rfl rfl rfl rfl ty45 ⟨trivial, ?_⟩
  refine jt ?_
  refine c_dr [_, _, _, _] [10, 11, 12] [(0, 0), (1, 0), (2, 0), (3, 0), (4, 0), (6, 0), (5, 1), (7, 1), (8, 1), (9, 1), (10, 2), (11, 2), (12, 2)] follows (by kernel_rfl) calm_body (keepS [0, 1, 3, 4] rfl) ?_
  refine mv (.pointer _) rfl ?_
  refine mv (.pointer _) rfl ?_
  refine nlc rfl ?_
  refine fad rfl Try.underlying48 rfl ty45.sz ?_
  refine ldp 0 1 _ rfl rfl rfl rfl ty45 ?_
  refine mv (.slice _ _ _) rfl ?_
  refine bsl (α := Spare) ([]) Try.underlying22 ty33.sz rfl (by decide) z33 rfl fun b19 => ⟨keepI [0, 1, 3, 5] rfl, ?_⟩
  refine app 4 (⟨false, b19, 0, []⟩) ([] : List Spare) xs (⟨by simp, fun _ => rfl, Nat.le_refl _⟩) rfl ⟨rfl, rfl, rfl⟩ rfl rfl (gives_vs 5 hs rfl) Try.underlying22 Try.underlying22 (.inl ⟨_, rfl⟩) ty33.sz by33 z33 rfl (by simp; omega) rfl fun o21_2 hk21_2 => ⟨keepI [0, 1, 3, 5] rfl, ?_⟩
  refine bsl (α := SlH) ([(⟨o21_2.adr, xs.length, o21_2.cap⟩ : SlH)]) Try.underlying45 ty22.sz rfl (by decide) z22 rfl fun b22 => ⟨keepI [0, 1, 3, 6] rfl, ?_⟩
  refine app 2 oW hW ([(⟨o21_2.adr, xs.length, o21_2.cap⟩ : SlH)] : List SlH) hoW rfl ⟨rfl, rfl, rfl⟩ rfl rfl (gives_own (ys := ([(⟨o21_2.adr, xs.length, o21_2.cap⟩ : SlH)] : List SlH)) (pre := []) (post := []) 5 rfl (by simp) rfl) Try.underlying45 Try.underlying45 (.inl ⟨_, rfl⟩) ty22.sz by22 z22 rfl (by simp; omega) rfl fun o23_3 hk23_3 => ⟨keepI [0, 1, 3, 6] rfl, ?_⟩
  refine nlc rfl ?_
  refine fad rfl Try.underlying48 rfl ty45.sz ?_
  refine stp 0 1 _ (p1 (.slice _ _ _)) rfl rfl rfl rfl rfl rfl ty45 ⟨keepT rfl, ?_⟩
  refine jn ?_
  exact j_end (own0 := [[(bsh, .cells (cat [p1 (.slice oL.adr hL.length oL.cap), p1 (.slice oW.adr hW.length oW.cap), p1 (.slice oK.adr hK.length oK.cap), p1 (.slice oY.adr hY.length oY.cap)]) 48)], oL.seg hL 22, oW.seg hW 22]) (ro0 := [s.seg xs]) (.inr rfl) rfl (hr0 Try.results39) [0, 1, 2, 4] [3, 5] [_, _, _, _] [_, _] [] _ rfl rfl (by kernel_rfl) rfl impl_nil (⟨o11_1, o23_3, o21_2, hk11_1, by simpa using hk23_3, by simpa using hk21_2, rfl, rfl, rfl⟩)

theorem shKeys_ct (bsh : Nat) (oL oW oK oY : Ow) (hL hW hK hY : List SlH) (hoK : oK.ok hK) (hoY : oY.ok hY) (hbK : hK.length ≤ 5864062014000) (hbY : hY.length ≤ 5864062014000) (s : Vs) (xs : List Key) (hs : s.ok xs) (hx : xs.length ≤ 1000000000) : Ct Try.prog 40 [.pointer (some ⟨bsh, 0, none⟩), s.v xs.length] [[(bsh, .cells (cat [p1 (.slice oL.adr hL.length oL.cap), p1 (.slice oW.adr hW.length oW.cap), p1 (.slice oK.adr hK.length oK.cap), p1 (.slice oY.adr hY.length oY.cap)]) 48)], oK.seg hK 77, oY.seg hY 77] [s.seg xs] (fun v w r => ∃ oK' oY' o2 : Ow, oK'.ok (hK ++ [(⟨s.adr, xs.length, s.cap⟩ : SlH)]) ∧ oY'.ok (hY ++ [(⟨o2.adr, xs.length, o2.cap⟩ : SlH)]) ∧ o2.ok xs ∧ v = .tuple #[] ∧ w = [[(bsh, .cells (cat [p1 (.slice oL.adr hL.length oL.cap), p1 (.slice oW.adr hW.length oW.cap), p1 (.slice oK'.adr (hK ++ [(⟨s.adr, xs.length, s.cap⟩ : SlH)]).length oK'.cap), p1 (.slice oY'.adr (hY ++ [(⟨o2.adr, xs.length, o2.cap⟩ : SlH)]).length oY'.cap)]) 48)], oK'.seg (hK ++ [(⟨s.adr, xs.length, s.cap⟩ : SlH)]) 77, oY'.seg (hY ++ [(⟨o2.adr, xs.length, o2.cap⟩ : SlH)]) 77, o2.seg xs 30] ∧ r = []) := by
  refine ct_enter Try.func40 rfl Try.ntmps40 (by kernel_rfl) rfl fun w0 => ?_
  refine c_seq ?_
  refine c_reg ?_
  refine mv (.pointer _) rfl ?_
  refine mv (.pointer _) rfl ?_
  refine nlc rfl ?_
  refine fad rfl Try.underlying48 rfl ty46.sz ?_
  refine ldp 0 2 _ rfl rfl rfl rfl ty46 ?_
  refine mv (.slice _ _ _) rfl ?_
  refine bsl (α := SlH) ([(⟨s.adr, xs.length, s.cap⟩ : SlH)]) Try.underlying46 ty77.sz rfl (by decide) z77 rfl fun b10 => ⟨trivial, ?_⟩
  refine app 1 oK hK ([(⟨s.adr, xs.length, s.cap⟩ : SlH)] : List SlH) hoK rfl ⟨rfl, rfl, rfl⟩ rfl rfl (gives_own (ys := ([(⟨s.adr, xs.length, s.cap⟩ : SlH)] : List SlH)) (pre := []) (post := []) 3 rfl (by simp) rfl) Try.underlying46 Try.underlying46 (.inl ⟨_, rfl⟩) ty77.sz by77 z77 rfl (by simp; omega) rfl fun o11_1 hk11_1 => ⟨trivial, ?_⟩
  refine nlc rfl ?_
  refine fad rfl Try.underlying48 rfl ty46.sz ?_
  refine stp 0 2 _ (p1 (.slice _ _ _)) rfl rfl rfl rfl rfl rfl ty46 ⟨trivial, ?_⟩
  refine jt ?_
  refine c_dr [_, _, _, _] [10, 11, 12] [(0, 0), (1, 0), (2, 0), (3, 0), (4, 0), (6, 0), (5, 1), (7, 1), (8, 1), (9, 1), (10, 2), (11, 2), (12, 2)] follows (by kernel_rfl) calm_body (keepS [0, 1, 3, 4] rfl) ?_
  refine mv (.pointer _) rfl ?_
  refine mv (.pointer _) rfl ?_
  refine nlc rfl ?_
  refine fad rfl Try.underlying48 rfl ty46.sz ?_
  refine ldp 0 3 _ rfl rfl rfl rfl ty46 ?_
  refine mv (.slice _ _ _) rfl ?_
  refine bsl (α := Key) ([]) Try.underlying77 ty30.sz rfl (by decide) z30 rfl fun b19 => ⟨keepI [0, 1, 3, 5] rfl, ?_⟩
  refine app 4 (⟨false, b19, 0, []⟩) ([] : List Key) xs (⟨by simp, fun _ => rfl, Nat.le_refl _⟩) rfl ⟨rfl, rfl, rfl⟩ rfl rfl (gives_vs 5 hs rfl) Try.underlying77 Try.underlying77 (.inl ⟨_, rfl⟩) ty30.sz by30 z30 rfl (by simp; omega) rfl fun o21_2 hk21_2 => ⟨keepI [0, 1, 3, 5] rfl, ?_⟩
  refine bsl (α := SlH) ([(⟨o21_2.adr, xs.length, o21_2.cap⟩ : SlH)]) Try.underlying46 ty77.sz rfl (by decide) z77 rfl fun b22 => ⟨keepI [0, 1, 3, 6] rfl, ?_⟩
  refine app 2 oY hY ([(⟨o21_2.adr, xs.length, o21_2.cap⟩ : SlH)] : List SlH) hoY rfl ⟨rfl, rfl, rfl⟩ rfl rfl (gives_own (ys := ([(⟨o21_2.adr, xs.length, o21_2.cap⟩ : SlH)] : List SlH)) (pre := []) (post := []) 5 rfl (by simp) rfl) Try.underlying46 Try.underlying46 (.inl ⟨_, rfl⟩) ty77.sz by77 z77 rfl (by simp; omega) rfl fun o23_3 hk23_3 => ⟨keepI [0, 1, 3, 6] rfl, ?_⟩
  refine nlc rfl ?_
  refine fad rfl Try.underlying48 rfl ty46.sz ?_
  refine stp 0 3 _ (p1 (.slice _ _ _)) rfl rfl rfl rfl rfl rfl ty46 ⟨keepT rfl, ?_⟩
  refine jn ?_
  exact j_end (own0 := [[(bsh, .cells (cat [p1 (.slice oL.adr hL.length oL.cap), p1 (.slice oW.adr hW.length oW.cap), p1 (.slice oK.adr hK.length oK.cap), p1 (.slice oY.adr hY.length oY.cap)]) 48)], oK.seg hK 77, oY.seg hY 77]) (ro0 := [s.seg xs]) (.inr rfl) rfl (hr0 Try.results40) [0, 1, 2, 4] [3, 5] [_, _, _, _] [_, _] [] _ rfl rfl (by kernel_rfl) rfl impl_nil (⟨o11_1, o23_3, o21_2, hk11_1, by simpa using hk23_3, by simpa using hk21_2, rfl, rfl, rfl⟩)
end Go.Proofs.Ytacfjmjcgolhfaa
