/- Contracts of the program's functions, walked. No condition. -/
import Derived.Test.YtacfjmjcgolhfaaA11
namespace Go.Proofs.Ytacfjmjcgolhfaa
open Go Go.Proofs Go.PW
open Go.PW.Enc (enc val)
theorem ty22 : Ty Try.prog 22 1 false := ⟨by kernel_rfl, by kernel_rfl⟩
theorem lay87 : ∀ fs, Try.prog.underlying 87 = some (.struct fs) → Lay Try.prog fs [(0, 1), (1, 1)] := fun fs h => by rw [Try.underlying87] at h; cases h; unfold Lay; kernel_rfl
theorem z87 : Zt Try.prog 87 (.agg ⟨cat [p1 (.int .i64 0), p1 (.slice none 0 0)]⟩) := by unfold Zt; kernel_rfl
def plI (p : SpP) (xs : List Spare) : Int := idxI p (xs.map plc)
theorem plI_mem {p : SpP} {xs : List Spare} : 0 ≤ plI p xs ↔ p ∈ xs.map plc := by
  unfold plI idxI
  split
  · next h => exact ⟨fun _ => h, fun _ => by omega⟩
  · next h => exact ⟨fun h1 => by omega, fun h1 => absurd h1 h⟩
theorem skv_mem {p : SpP} {l : List Spare} : (mget p (List.map skv l)).isSome = true ↔ p ∈ l.map plc := by
  rw [← skv_fst]
  cases h : mget p (List.map skv l) with
  | none => exact ⟨fun e => (by cases e), fun e => absurd e (mget_none.1 h)⟩
  | some x =>
    simp only [Option.isSome_some, true_iff]
    apply Classical.byContradiction
    intro hn
    rw [mget_none.2 hn] at h; cases h
theorem plI_some {h : Key} {n : UInt32} {l : List Spare} (h1 : 0 ≤ plI ⟨h, n⟩ l) : (mget (⟨h, n⟩ : SpP) (List.map skv l)).isSome = true := skv_mem.2 (plI_mem.1 h1)
theorem plI_none {h : Key} {n : UInt32} {l : List Spare} (h1 : ¬ 0 ≤ plI ⟨h, n⟩ l) : (mget (⟨h, n⟩ : SpP) (List.map skv l)).isSome = false := by
  cases h2 : (mget (⟨h, n⟩ : SpP) (List.map skv l)).isSome with
  | false => rfl
  | true => exact absurd (plI_mem.2 (skv_mem.1 h2)) h1
theorem plI_lt (p : SpP) (xs : List Spare) : -1 ≤ plI p xs ∧ plI p xs ≤ xs.length - (if xs = [] then 0 else 1) := by
  have h1 := idxI_ge p (xs.map plc); have h2 := idxI_le p (xs.map plc)
  unfold plI
  refine ⟨h1, ?_⟩
  unfold idxI at h1 h2 ⊢
  split
  · next h => have := List.idxOf_lt_length_of_mem h; split <;> simp_all; omega
  · split <;> simp_all; omega
theorem plI_at {p : SpP} {xs : List Spare} (h : 0 ≤ plI p xs) : ∃ hk : (plI p xs).toNat < xs.length, plc (xs[(plI p xs).toNat]) = p := by
  have hm := plI_mem.1 h
  have e : plI p xs = ((xs.map plc).idxOf p : Int) := by unfold plI idxI; rw [if_pos hm]
  have hl := List.idxOf_lt_length_of_mem hm
  have h2 : (xs.map plc)[(xs.map plc).idxOf p] = p := List.getElem_idxOf hl
  have e2 : (plI p xs).toNat = (xs.map plc).idxOf p := by omega
  refine ⟨by simpa [e2] using hl, ?_⟩
  simp only [e2]
  rw [List.getElem_map] at h2; exact h2
theorem plI_get {h : Key} {n : UInt32} {l : List Spare} (hnd : (l.map plc).Nodup) (h0 : 0 ≤ plI ⟨h, n⟩ l) (hk : (plI ⟨h, n⟩ l).toNat < l.length) : mget (⟨h, n⟩ : SpP) (List.map skv l) = some (l[(plI ⟨h, n⟩ l).toNat]).message := by
  obtain ⟨_, h1⟩ := plI_at h0
  have h2 := mget_at (kv := List.map skv l) (by rw [skv_fst]; exact hnd) (i := (plI ⟨h, n⟩ l).toNat) (by simpa)
  simp only [List.getElem_map, skv] at h2
  rw [h1] at h2; exact h2

theorem RLen_ct (br : Nat) (o : Ow) (most : Int) (l : List Spare) (ho : o.ok l) : Ct Try.prog 37 [.pointer (some ⟨br, 0, none⟩)] [] [[(br, .cells (cat [p1 (.int .i64 most), p1 (.slice o.adr l.length o.cap)]) 87)], o.seg l 33] (fun v o r => v = .int .i64 l.length ∧ o = [] ∧ r = []) := by
  refine ct_enter Try.func37 rfl Try.ntmps37 (by kernel_rfl) rfl fun w0 => ?_
  refine c_seq ?_
  refine c_reg ?_
  refine asg (.int _ _) rfl ?_
  refine jt ?_
  refine c_seq ?_
  refine c_reg ?_
  refine mv (.pointer _) rfl ?_
  refine nlc rfl ?_
  refine fad rfl Try.underlying87 rfl ty22.sz ?_
  refine ldp 0 1 _ rfl rfl rfl rfl ty22 ?_
  refine lenS rfl Try.underlying22 ?_
  refine asg (.int _ _) rfl ?_
  refine jt ?_
  refine c_ret ?_
  exact j_end (own0 := []) (ro0 := [[(br, .cells (cat [p1 (.int .i64 most), p1 (.slice o.adr l.length o.cap)]) 87)], o.seg l 33]) (.inl rfl) rfl (hr1 Try.results37 (rvt (v := (.int _ _)) rfl)) [] [] [] [] [] _ rfl rfl (by kernel_rfl) rfl impl_nil (⟨rfl, rfl, rfl⟩)

theorem RRoom_ct (br : Nat) (o : Ow) (most : Int) (l : List Spare) (ho : o.ok l) (hm : 0 ≤ most ∧ most ≤ 2000) (hl : l.length ≤ 2000) : Ct Try.prog 38 [.pointer (some ⟨br, 0, none⟩)] [] [[(br, .cells (cat [p1 (.int .i64 most), p1 (.slice o.adr l.length o.cap)]) 87)], o.seg l 33] (fun v o r => v = .int .i64 (most - l.length) ∧ o = [] ∧ r = []) := by
  refine ct_enter Try.func38 rfl Try.ntmps38 (by kernel_rfl) rfl fun w0 => ?_
  refine c_seq ?_
  refine c_reg ?_
  refine asg (.int _ _) rfl ?_
  refine jt ?_
  refine c_seq ?_
  refine c_dr [_, _] [] [(0, 0), (1, 0), (2, 0), (3, 0), (4, 0), (5, 0), (6, 0), (7, 0), (8, 0), (9, 0), (10, 0)] follows (by kernel_rfl) calm_body (keepS [0, 1] rfl) ?_
  refine mv (.pointer _) rfl ?_
  refine nlc rfl ?_
  refine fad rfl Try.underlying87 rfl ty3.sz ?_
  refine ldp 0 0 _ rfl rfl rfl rfl ty3 ?_
  refine mv (.pointer _) rfl ?_
  refine nlc rfl ?_
  refine fad rfl Try.underlying87 rfl ty22.sz ?_
  refine ldp 0 1 _ rfl rfl rfl rfl ty22 ?_
  refine lenS rfl Try.underlying22 ?_
  refine subi rfl rfl rfl (by omega) ?_
  refine asg (.int _ _) rfl ?_
  refine jt ?_
  refine c_ret ?_
  exact j_end (own0 := []) (ro0 := [[(br, .cells (cat [p1 (.int .i64 most), p1 (.slice o.adr l.length o.cap)]) 87)], o.seg l 33]) (.inl rfl) rfl (hr1 Try.results38 (rvt (v := (.int _ _)) rfl)) [] [] [] [] [] _ rfl rfl (by kernel_rfl) rfl impl_nil (⟨rfl, rfl, rfl⟩)

theorem RList_ct (br : Nat) (o : Ow) (most : Int) (l : List Spare) (ho : o.ok l) (hl : l.length ≤ 2000) : Ct Try.prog 34 [.pointer (some ⟨br, 0, none⟩)] [] [[(br, .cells (cat [p1 (.int .i64 most), p1 (.slice o.adr l.length o.cap)]) 87)], o.seg l 33] (fun v o r => ∃ o' : Ow, o'.ok l ∧ v = .slice o'.adr l.length o'.cap ∧ o = [o'.seg l 33] ∧ r = []) := by
  refine ct_enter Try.func34 rfl Try.ntmps34 (by kernel_rfl) rfl fun w0 => ?_
  refine c_seq ?_
  refine c_reg ?_
  refine asg (.slice _ _ _) rfl ?_
  refine jt ?_
  refine c_seq ?_
  refine c_reg ?_
  refine bsl (α := Spare) ([]) Try.underlying22 ty33.sz rfl (by decide) z33 rfl fun b3 => ⟨trivial, ?_⟩
  refine mv (.pointer _) rfl ?_
  refine nlc rfl ?_
  refine fad rfl Try.underlying87 rfl ty22.sz ?_
  refine ldp 1 1 _ rfl rfl rfl rfl ty22 ?_
  refine app 0 (⟨false, b3, 0, []⟩) ([] : List Spare) l (⟨by simp, fun _ => rfl, Nat.le_refl _⟩) rfl ⟨rfl, rfl, rfl⟩ rfl rfl (gives_ow 2 ho rfl) Try.underlying22 Try.underlying22 (.inl ⟨_, rfl⟩) ty33.sz by33 z33 rfl (by first | omega | (simp; omega)) rfl fun o8_1 hk8_1 => ⟨trivial, ?_⟩
  refine asg (.slice _ _ _) rfl ?_
  refine jt ?_
  refine c_ret ?_
  exact j_end (own0 := []) (ro0 := [[(br, .cells (cat [p1 (.int .i64 most), p1 (.slice o.adr l.length o.cap)]) 87)], o.seg l 33]) (.inl rfl) rfl (hr1 Try.results34 (rvt (v := (.slice _ _ _)) rfl)) [0] [] [_] [] [] _ rfl rfl (by kernel_rfl) rfl impl_nil (⟨o8_1, by simpa using hk8_1, rfl, rfl, rfl⟩)

theorem place_ct (s : Vs) (xs : List Spare) (hs : s.ok xs) (hx : xs.length ≤ 9223372036854775806) (h : Key) (n : UInt32) : Ct Try.prog 53 [s.v xs.length, val h, .int .u32 n.toNat] [] [s.seg xs] (fun v o r => v = .int .i64 (plI ⟨h, n⟩ xs) ∧ o = [] ∧ r = []) := by
  refine ct_enter Try.func53 rfl Try.ntmps53 (by kernel_rfl) rfl fun w0 => ?_
  refine c_seq ?_
  refine c_reg ?_
  refine bxx [pt h] _ rfl rfl fun b4 => ⟨trivial, ?_⟩
  refine asg (.int _ _) rfl ?_
  refine jt ?_
  refine c_seq ?_
  refine c_seq ?_
  refine c_reg ?_
  refine asg (.int _ _) rfl ?_
  refine jt ?_
  refine c_block ?_
  refine c_loop (σ := Nat) (fun k => k ≤ xs.length ∧ (⟨h, n⟩ : SpP) ∉ (List.map plc xs).take k) (fun k => xs.length - k) (fun k => [(7, .int .i64 (k : Int))]) (fun k => [[(b4, .cells (cat [pt h]) 30)]]) (fun k => [s.seg xs]) [6, 7, 8, 9, 10, 11, 12, 13, 14, 15, 16, 17, 18, 19, 20, 21, 22, 23, 24, 25, 26, 27, 28, 29, 30] 0 (⟨by omega, by simp⟩) ⟨rfl, trivial⟩ rfl rfl ?_
  rintro k g1 hI1
  try dsimp only at hI1 ⊢
  refine c_seq ?_
  refine c_seq ?_
  refine c_reg ?_
  refine mv (.int _ _) rfl ?_
  refine mv (.slice _ _ _) rfl ?_
  refine lenS rfl Try.underlying22 ?_
  refine cmp _ rfl rfl rfl ?_
  refine jt ?_
  refine c_cond rfl (fun h1 => ?_) (fun h1 => ?_)
  · replace h1 := of_decide_eq_true h1
    refine c_skip ?_
    refine e_then ?_
    refine c_seq ?_
    refine c_block ?_
    refine c_seq ?_
    refine c_dr [_, _] [] [(0, 0), (1, 0), (2, 0), (3, 0), (4, 0), (5, 0), (6, 0), (7, 0), (8, 0), (9, 0), (10, 0), (11, 0), (12, 0), (13, 0), (14, 0), (15, 0)] follows (by kernel_rfl) calm_body (keepS [0, 1] rfl) ?_
    refine mv (.slice _ _ _) rfl ?_
    refine mv (.int _ _) rfl ?_
    refine ixs s xs k hs rfl rfl rfl Try.underlying22 ty33.sz rfl (by first | omega | (simp; done) | (simp; omega) | (simp at *; omega)) ?_
    refine fad rfl Try.underlying33 rfl ty31.sz ?_
    refine ldvsf 1 _ 1 hs rfl rfl rfl (by first | omega | (simp; done) | (simp; omega) | (simp at *; omega)) rfl rfl ty31 ?_
    refine mv (.int _ _) rfl ?_
    refine equ32 (a := xs[k].n) (b := n) _ rfl rfl rfl ?_
    refine mv (.bool _) rfl ?_
    refine jsplit 21 rfl (fun h2 => ?_) (fun h2 => ?_)
    · replace h2 := of_decide_eq_true h2
      refine g_on rfl rfl rfl ?_
      refine mv (.slice _ _ _) rfl ?_
      refine g_on rfl rfl rfl ?_
      refine mv (.int _ _) rfl ?_
      refine g_on rfl rfl rfl ?_
      refine ixs s xs k hs rfl rfl rfl Try.underlying22 ty33.sz rfl (by first | omega | (simp; done) | (simp; omega) | (simp at *; omega)) ?_
      refine g_on rfl rfl rfl ?_
      refine fad rfl Try.underlying33 rfl ty30.sz ?_
      refine g_on rfl rfl rfl ?_
      refine ldvsf 1 _ 0 hs rfl rfl rfl (by first | omega | (simp; done) | (simp; omega) | (simp at *; omega)) rfl rfl ty30 ?_
      refine g_on rfl rfl rfl ?_
      refine ldp 0 0 _ rfl rfl rfl rfl ty30 ?_
      refine g_on rfl rfl rfl ?_
      refine eqA (xs[k].header) h _ rfl rfl rfl rfl eq30 rfl Try.eqGuardType30 rfl ?_
      refine pkt (.bool _) rfl rfl ?_
      refine jt ?_
      refine c_cond rfl (fun h3 => ?_) (fun h3 => ?_)
      · replace h3 := of_decide_eq_true h3
        refine c_seq ?_
        refine c_reg ?_
        refine mv (.int _ _) rfl ?_
        refine asg (.int _ _) rfl ?_
        refine jt ?_
        refine c_ret ?_
        exact j_end (own0 := []) (ro0 := [s.seg xs]) (.inl rfl) rfl (hr1 Try.results53 (rvt (v := (.int _ _)) rfl)) [] [0] [] [_] [] _ rfl rfl (by kernel_rfl) rfl impl_nil (⟨by rw [show plI ⟨h, n⟩ xs = k from idx_at (by simp; omega) hI1.2 (by simp [plc, h2, h3])], rfl, rfl⟩)
      · replace h3 := of_decide_eq_false h3
        refine c_skip ?_
        refine e_in ?_
        refine e_then ?_
        refine c_reg ?_
        refine mv (.int _ _) rfl ?_
        refine addi rfl rfl rfl (by omega) ?_
        refine asg (.int _ _) rfl ?_
        refine jn ?_
        exact e_loop (k + 1) (⟨by omega, nin_next (by simp; omega) hI1.2 (fun e => by rw [List.getElem_map] at e; have e1 := congrArg SpP.n e; have e2 := congrArg SpP.header e; dsimp only [plc] at e1 e2; first | exact h2 e1 | exact h3 e2)⟩) (by (try dsimp only); omega) (⟨rfl, trivial⟩) rfl rfl rfl
    · replace h2 := of_decide_eq_false h2
      refine g_off rfl rfl rfl rfl ?_
      refine g_off rfl rfl rfl rfl ?_
      refine g_off rfl rfl rfl rfl ?_
      refine g_off rfl rfl rfl rfl ?_
      refine g_off rfl rfl rfl rfl ?_
      refine g_off rfl rfl rfl rfl ?_
      refine g_off rfl rfl rfl rfl ?_
      refine pkf (.bool _) rfl rfl ?_
      refine jt ?_
      refine c_false rfl ?_
      refine c_skip ?_
      refine e_in ?_
      refine e_then ?_
      refine c_reg ?_
      refine mv (.int _ _) rfl ?_
      refine addi rfl rfl rfl (by omega) ?_
      refine asg (.int _ _) rfl ?_
      refine jn ?_
      exact e_loop (k + 1) (⟨by omega, nin_next (by simp; omega) hI1.2 (fun e => by rw [List.getElem_map] at e; have e1 := congrArg SpP.n e; have e2 := congrArg SpP.header e; dsimp only [plc] at e1 e2; first | exact h2 e1 | exact h3 e2)⟩) (by (try dsimp only); omega) (⟨rfl, trivial⟩) rfl rfl rfl
  · replace h1 := of_decide_eq_false h1
    refine c_exit rfl ?_
    refine e_then ?_
    refine c_seq ?_
    refine c_reg ?_
    refine asg (.int _ _) rfl ?_
    refine jt ?_
    refine c_ret ?_
    exact j_end (own0 := []) (ro0 := [s.seg xs]) (.inl rfl) rfl (hr1 Try.results53 (rvt (v := (.int _ _)) rfl)) [] [0] [] [_] [] _ rfl rfl (by kernel_rfl) rfl impl_nil (⟨by rw [show plI ⟨h, n⟩ xs = -1 from idx_no (k := k) (by simp; omega) hI1.2], rfl, rfl⟩)

set_option maxRecDepth 20000 in
set_option maxHeartbeats 4000000 in
theorem RPut_ct (br : Nat) (o : Ow) (most : Int) (l : List Spare) (ho : o.ok l) (hm : 0 ≤ most ∧ most ≤ 2000) (hl : l.length ≤ 2000) (hnd : (l.map plc).Nodup) (s : Vs) (xs : List Spare) (hs : s.ok xs) (hx : xs.length ≤ 9223372036854775806) : Ct Try.prog 32 [.pointer (some ⟨br, 0, none⟩), s.v xs.length] [[(br, .cells (cat [p1 (.int .i64 most), p1 (.slice o.adr l.length o.cap)]) 87)], o.seg l 33] [s.seg xs] (fun v w r => ∃ o' : Ow, o'.ok (putL most l xs) ∧ v = .int .i64 (putE most l xs) ∧ w = [[(br, .cells (cat [p1 (.int .i64 most), p1 (.slice o'.adr (putL most l xs).length o'.cap)]) 87)], o'.seg (putL most l xs) 33] ∧ r = []) := by
  refine ct_enter Try.func32 rfl Try.ntmps32 (by kernel_rfl) rfl fun w0 => ?_
  refine c_seq ?_
  refine c_reg ?_
  refine asg (.int _ _) rfl ?_
  refine jt ?_
  refine c_seq ?_
  refine c_seq ?_
  refine c_reg ?_
  refine asg (.int _ _) rfl ?_
  refine jt ?_
  refine c_block ?_
  refine c_loop (σ := Nat) (fun k => k ≤ xs.length ∧ ((l ++ List.take k xs).map plc).Nodup) (fun k => xs.length - k) (fun k => [(5, .int .i64 (k : Int))]) (fun k => [[(br, .cells (cat [p1 (.int .i64 most), p1 (.slice o.adr l.length o.cap)]) 87)], o.seg l 33]) (fun k => [s.seg xs]) [4, 5, 6, 7, 8, 9, 10, 11, 12, 13, 14, 15, 16, 17, 18, 19, 20, 21, 22, 23, 24, 25, 26, 27, 28, 29, 30, 31, 32, 33, 34, 35, 36, 37, 38, 39, 40, 41, 42, 43, 44] 0 (⟨by omega, by simpa using hnd⟩) ⟨rfl, trivial⟩ rfl rfl ?_
  rintro k g1 hI1
  try dsimp only at hI1 ⊢
  refine c_seq ?_
  refine c_seq ?_
  refine c_reg ?_
  refine mv (.int _ _) rfl ?_
  refine mv (.slice _ _ _) rfl ?_
  refine lenS rfl Try.underlying22 ?_
  refine cmp _ rfl rfl rfl ?_
  refine jt ?_
  refine c_cond rfl (fun h1 => ?_) (fun h1 => ?_)
  · replace h1 := of_decide_eq_true h1
    refine c_skip ?_
    refine e_then ?_
    refine c_seq ?_
    refine c_block ?_
    refine c_seq ?_
    refine c_dr [_, _, _] [] [(0, 0), (1, 0), (2, 0), (3, 0), (4, 0), (5, 0), (6, 0), (7, 0), (8, 0), (9, 0), (10, 0), (11, 0), (12, 0), (13, 0), (14, 1), (15, 0), (16, 0), (17, 0), (18, 0), (19, 0), (20, 0), (21, 0), (22, 0), (23, 0), (24, 0), (25, 0), (26, 0), (27, 0), (28, 0), (29, 0), (30, 1), (31, 0), (32, 0)] follows (by kernel_rfl) calm_body (keepS [0, 1, 2] rfl) ?_
    refine mv (.pointer _) rfl ?_
    refine nlc rfl ?_
    refine fad rfl Try.underlying87 rfl ty22.sz ?_
    refine ldp 0 1 _ rfl rfl rfl rfl ty22 ?_
    refine mv (.slice _ _ _) rfl ?_
    refine mv (.int _ _) rfl ?_
    refine ixs s xs k hs rfl rfl rfl Try.underlying22 ty33.sz rfl (by first | omega | (simp; done) | (simp; omega) | (simp at *; omega)) ?_
    refine fad rfl Try.underlying33 rfl ty30.sz ?_
    refine ldvsf 2 _ 0 hs rfl rfl rfl (by first | omega | (simp; done) | (simp; omega) | (simp at *; omega)) rfl rfl ty30 ?_
    refine mv (.slice _ _ _) rfl ?_
    refine mv (.int _ _) rfl ?_
    refine ixs s xs k hs rfl rfl rfl Try.underlying22 ty33.sz rfl (by first | omega | (simp; done) | (simp; omega) | (simp at *; omega)) ?_
    refine fad rfl Try.underlying33 rfl ty31.sz ?_
    refine ldvsf 2 _ 1 hs rfl rfl rfl (by first | omega | (simp; done) | (simp; omega) | (simp at *; omega)) rfl rfl ty31 ?_
    refine cal (place_ct ((o).vs) l (Ow.vs_ok ho) (by first | omega | (simp; done) | (simp; omega) | (simp at *; omega)) (xs[k].header) (xs[k].n)) [] [0, 1] [_, _] rfl rfl rfl (by kernel_rfl) (impl_cons (ow_impl 2 rfl) impl_nil) rfl ?_; rintro _ _ _ ⟨rfl, rfl, rfl⟩; refine ⟨keepI [0, 1, 2] rfl, ?_⟩
    refine cmp _ rfl rfl rfl ?_
    refine mv (.bool _) rfl ?_
    refine jsplit 28 rfl (fun h2 => ?_) (fun h2 => ?_)
    · replace h2 := of_decide_eq_true h2
      refine g_off rfl rfl rfl rfl ?_
      refine g_off rfl rfl rfl rfl ?_
      refine g_off rfl rfl rfl rfl ?_
      refine g_off rfl rfl rfl rfl ?_
      refine g_off rfl rfl rfl rfl ?_
      refine g_off rfl rfl rfl rfl ?_
      refine g_off rfl rfl rfl rfl ?_
      refine g_off rfl rfl rfl rfl ?_
      refine g_off rfl rfl rfl rfl ?_
      refine g_off rfl rfl rfl rfl ?_
      refine g_off rfl rfl rfl rfl ?_
      refine g_off rfl rfl rfl rfl ?_
      refine g_off rfl rfl rfl rfl ?_
      refine g_off rfl rfl rfl rfl ?_
      refine g_off rfl rfl rfl rfl ?_
      refine pkt (.bool _) rfl rfl ?_
      refine jt ?_
      refine c_true rfl ?_
      refine c_seq ?_
      refine c_reg ?_
      refine asg (.int _ _) rfl ?_
      refine jt ?_
      refine c_ret ?_
      exact j_end (own0 := [[(br, .cells (cat [p1 (.int .i64 most), p1 (.slice o.adr l.length o.cap)]) 87)], o.seg l 33]) (ro0 := [s.seg xs]) (.inl rfl) rfl (hr1 Try.results32 (rvt (v := (.int _ _)) rfl)) [0, 1] [] [_, _] [] [] _ rfl rfl (by kernel_rfl) rfl impl_nil (have e := put_here (most := most) hnd (show k < xs.length by omega) (plI_some h2); have e2 := put_lx e (by decide); ⟨o, by rw [e2]; exact ho, by rw [e], by rw [e2], rfl⟩)
    · replace h2 := of_decide_eq_false h2
      refine g_on rfl rfl rfl ?_
      refine mv (.slice _ _ _) rfl ?_
      refine g_on rfl rfl rfl ?_
      refine mv (.int _ _) rfl ?_
      refine g_on rfl rfl rfl ?_
      refine sli s 0 k rfl Try.underlying22 ty33.sz rfl (⟨_, rfl⟩) (by have := hs.le; omega) (by have := hs.le; omega) (by have := hs.le; omega) ?_
      refine g_on rfl rfl rfl ?_
      refine mv (.slice _ _ _) rfl ?_
      refine g_on rfl rfl rfl ?_
      refine mv (.int _ _) rfl ?_
      refine g_on rfl rfl rfl ?_
      refine ixs s xs k hs rfl rfl rfl Try.underlying22 ty33.sz rfl (by first | omega | (simp; done) | (simp; omega) | (simp at *; omega)) ?_
      refine g_on rfl rfl rfl ?_
      refine fad rfl Try.underlying33 rfl ty30.sz ?_
      refine g_on rfl rfl rfl ?_
      refine ldvsf 2 _ 0 hs rfl rfl rfl (by first | omega | (simp; done) | (simp; omega) | (simp at *; omega)) rfl rfl ty30 ?_
      refine g_on rfl rfl rfl ?_
      refine mv (.slice _ _ _) rfl ?_
      refine g_on rfl rfl rfl ?_
      refine mv (.int _ _) rfl ?_
      refine g_on rfl rfl rfl ?_
      refine ixs s xs k hs rfl rfl rfl Try.underlying22 ty33.sz rfl (by first | omega | (simp; done) | (simp; omega) | (simp at *; omega)) ?_
      refine g_on rfl rfl rfl ?_
      refine fad rfl Try.underlying33 rfl ty31.sz ?_
      refine g_on rfl rfl rfl ?_
      refine ldvsf 2 _ 1 hs rfl rfl rfl (by first | omega | (simp; done) | (simp; omega) | (simp at *; omega)) rfl rfl ty31 ?_
      refine g_on rfl rfl rfl ?_
      refine cal (place_ct (Vs.sub s 0 65) ((List.drop 0 xs).take k) (Vs.sub_ok hs 0 k 65 (by omega)) (by first | omega | (simp; done) | (simp; omega) | (simp at *; omega)) (xs[k].header) (xs[k].n)) [] [0, 1] [_, _] rfl (hx_cons rfl (hx_len (by simp; omega)) (hx_cons rfl rfl (hx_cons rfl rfl rfl))) rfl (by kernel_rfl) (impl_cons (Vs.sub_impl hs 0 k (by omega) 0 rfl) impl_nil) rfl ?_; rintro _ _ _ ⟨rfl, rfl, rfl⟩; refine ⟨keepI [0, 1, 2] rfl, ?_⟩
      refine g_on rfl rfl rfl ?_
      refine cmp _ rfl rfl rfl ?_
      refine pkf (.bool _) rfl rfl ?_
      refine jt ?_
      refine c_cond rfl (fun h3 => ?_) (fun h3 => ?_)
      · replace h3 := of_decide_eq_true h3
        refine c_seq ?_
        refine c_reg ?_
        refine asg (.int _ _) rfl ?_
        refine jt ?_
        refine c_ret ?_
        exact j_end (own0 := [[(br, .cells (cat [p1 (.int .i64 most), p1 (.slice o.adr l.length o.cap)]) 87)], o.seg l 33]) (ro0 := [s.seg xs]) (.inl rfl) rfl (hr1 Try.results32 (rvt (v := (.int _ _)) rfl)) [0, 1] [] [_, _] [] [] _ rfl rfl (by kernel_rfl) rfl impl_nil (have e := put_twice (most := most) (show k < xs.length by omega) (plI_some (by simpa using h3)); have e2 := put_lx e (by decide); ⟨o, by rw [e2]; exact ho, by rw [e], by rw [e2], rfl⟩)
      · replace h3 := of_decide_eq_false h3
        refine c_skip ?_
        refine e_in ?_
        refine e_then ?_
        refine c_reg ?_
        refine mv (.int _ _) rfl ?_
        refine addi rfl rfl rfl (by omega) ?_
        refine asg (.int _ _) rfl ?_
        refine jn ?_
        exact e_loop (k + 1) (⟨by omega, put_next (by omega) hI1.2 (plI_none h2) (plI_none (by simpa using h3))⟩) (by (try dsimp only); omega) (⟨rfl, trivial⟩) rfl rfl rfl
  · replace h1 := of_decide_eq_false h1
    refine c_exit rfl ?_
    refine e_then ?_
    refine c_seq ?_
    refine c_seq ?_
    refine c_reg ?_
    refine mv (.slice _ _ _) rfl ?_
    refine lenS rfl Try.underlying22 ?_
    refine mv (.pointer _) rfl ?_
    refine cal (RRoom_ct br o most l ho (by omega) (by omega)) [] [0, 1] [_, _] rfl rfl rfl (by kernel_rfl) (impl_cons (impl_at 1 rfl) (impl_cons (impl_at 2 rfl) impl_nil)) rfl ?_; rintro _ _ _ ⟨rfl, rfl, rfl⟩; refine ⟨trivial, ?_⟩
    refine cmp _ rfl rfl rfl ?_
    refine jt ?_
    refine c_cond rfl (fun h4 => ?_) (fun h4 => ?_)
    · replace h4 := of_decide_eq_true h4
      refine c_seq ?_
      refine c_reg ?_
      refine asg (.int _ _) rfl ?_
      refine jt ?_
      refine c_ret ?_
      exact j_end (own0 := [[(br, .cells (cat [p1 (.int .i64 most), p1 (.slice o.adr l.length o.cap)]) 87)], o.seg l 33]) (ro0 := [s.seg xs]) (.inl rfl) rfl (hr1 Try.results32 (rvt (v := (.int _ _)) rfl)) [0, 1] [] [_, _] [] [] _ rfl rfl (by kernel_rfl) rfl impl_nil (have e := put_room (most := most) (show xs.length ≤ k by omega) hI1.2 (by omega); have e2 := put_lx e (by decide); ⟨o, by rw [e2]; exact ho, by rw [e], by rw [e2], rfl⟩)
    · replace h4 := of_decide_eq_false h4
      refine c_skip ?_
      refine e_then ?_
      refine c_seq ?_
      refine c_reg ?_
      refine mv (.pointer _) rfl ?_
      refine mv (.pointer _) rfl ?_
      refine cal (RList_ct br o most l ho (by omega)) [] [0, 1] [_, _] rfl rfl rfl (by kernel_rfl) (impl_cons (impl_at 1 rfl) (impl_cons (impl_at 2 rfl) impl_nil)) rfl ?_; rintro _ _ _ ⟨o52, ho52, rfl, rfl, rfl⟩; refine ⟨trivial, ?_⟩
      refine mv (.slice _ _ _) rfl ?_
      refine app 2 o52 l xs ho52 rfl ⟨rfl, rfl, rfl⟩ rfl rfl (gives_vs 3 hs rfl) Try.underlying22 Try.underlying22 (.inl ⟨_, rfl⟩) ty33.sz by33 z33 rfl (by omega) rfl fun o54_1 hk54_1 => ⟨trivial, ?_⟩
      refine nlc rfl ?_
      refine fad rfl Try.underlying87 rfl ty22.sz ?_
      refine stp 0 1 _ (p1 (.slice _ _ _)) rfl rfl rfl rfl rfl rfl ty22 ⟨trivial, ?_⟩
      refine jt ?_
      refine c_seq ?_
      refine c_reg ?_
      refine asg (.int _ _) rfl ?_
      refine jt ?_
      refine c_ret ?_
      exact j_end (own0 := [[(br, .cells (cat [p1 (.int .i64 most), p1 (.slice o.adr l.length o.cap)]) 87)], o.seg l 33]) (ro0 := [s.seg xs]) (.inl rfl) rfl (hr1 Try.results32 (rvt (v := (.int _ _)) rfl)) [0, 2] [1] [_, _] [_] [] _ rfl rfl (by kernel_rfl) rfl impl_nil (by have e := put_ok (most := most) (show xs.length ≤ k by omega) hI1.2 (by omega); exact ⟨o54_1, by rw [e.2]; exact hk54_1, by rw [e.1], by rw [e.2]; rfl, rfl⟩)

theorem RPut_is (br : Nat) (o : Ow) (most : Int) (l : List Spare) (ho : o.ok l) (hm : 0 ≤ most ∧ most ≤ 2000) (hl : l.length ≤ 2000) (hnd : (l.map plc).Nodup) (s : Vs) (xs : List Spare) (hs : s.ok xs) (hx : xs.length ≤ 9223372036854775806) {z : Int} {l2 : List Spare} (hz : putE most l xs = z) (hl2 : putL most l xs = l2) : Ct Try.prog 32 [.pointer (some ⟨br, 0, none⟩), s.v xs.length] [[(br, .cells (cat [p1 (.int .i64 most), p1 (.slice o.adr l.length o.cap)]) 87)], o.seg l 33] [s.seg xs] (fun v w r => ∃ o' : Ow, o'.ok l2 ∧ v = .int .i64 z ∧ w = [[(br, .cells (cat [p1 (.int .i64 most), p1 (.slice o'.adr l2.length o'.cap)]) 87)], o'.seg l2 33] ∧ r = []) := by
  subst hz; subst hl2; exact RPut_ct br o most l ho hm hl hnd s xs hs hx

end Go.Proofs.Ytacfjmjcgolhfaa
