/- Contracts of the program's functions, walked. No condition. -/
import Derived.Test.YtacfjmjcgolhfaaA7
namespace Go.Proofs.Ytacfjmjcgolhfaa
open Go Go.Proofs Go.PW
open Go.PW.Enc (enc val)
theorem zw72 : Zt Try.prog 72 (val (⟨zarr, 0⟩ : SpP)) := by unfold Zt; kernel_rfl
def idxI (p : SpP) (xs : List SpP) : Int := if p ∈ xs then (xs.idxOf p : Int) else -1
def del (p : SpP) (xs : List SpP) : List SpP := xs.filter fun q => !decide (q = p)
theorem nin_next {p : SpP} {xs : List SpP} {k : Nat} (hk : k < xs.length) (h : p ∉ xs.take k) (h2 : ¬ xs[k] = p) : p ∉ xs.take (k + 1) := by
  rw [List.take_succ_eq_append_getElem hk, List.mem_append, List.mem_singleton]
  exact fun e => e.elim h fun e => h2 e.symm
theorem idx_no {p : SpP} {xs : List SpP} {k : Nat} (hk : xs.length ≤ k) (h : p ∉ xs.take k) : idxI p xs = -1 := by
  rw [List.take_of_length_le hk] at h; unfold idxI; rw [if_neg h]
theorem idxOf_at {p : SpP} {xs : List SpP} {k : Nat} (hk : k < xs.length) (h : p ∉ xs.take k) (h2 : xs[k] = p) : xs.idxOf p = k := by
  have e : xs = xs.take k ++ (xs[k] :: xs.drop (k + 1)) := by rw [List.getElem_cons_drop, List.take_append_drop]
  rw [e, List.idxOf_append, if_neg h, h2]
  simp; omega
theorem idx_at {p : SpP} {xs : List SpP} {k : Nat} (hk : k < xs.length) (h : p ∉ xs.take k) (h2 : xs[k] = p) : idxI p xs = k := by
  unfold idxI
  rw [if_pos (h2 ▸ List.getElem_mem hk), idxOf_at hk h h2]
theorem idxI_ge (p : SpP) (xs : List SpP) : -1 ≤ idxI p xs := by unfold idxI; split <;> omega
theorem idxI_le (p : SpP) (xs : List SpP) : idxI p xs ≤ xs.length := by unfold idxI; split; have := List.idxOf_lt_length_of_mem (by assumption : p ∈ xs); omega; omega
theorem idxI_eq {p : SpP} {xs : List SpP} (h : ¬ idxI p xs = -1) : idxI p xs = (xs.idxOf p : Int) := by unfold idxI at h ⊢; split at h <;> simp_all
theorem idxI_mem {p : SpP} {xs : List SpP} (h : ¬ idxI p xs = -1) : p ∈ xs := by unfold idxI at h; split at h <;> simp_all
theorem del_no {p : SpP} {xs : List SpP} (h : idxI p xs = -1) : del p xs = xs := by
  have hn : p ∉ xs := fun hm => by unfold idxI at h; rw [if_pos hm] at h; omega
  unfold del
  rw [List.filter_eq_self]
  intro q hq
  simp only [Bool.not_eq_true', decide_eq_false_iff_not]
  exact fun e => hn (e ▸ hq)
theorem del_start {p : SpP} {xs : List SpP} (h : ¬ idxI p xs = -1) : xs.idxOf p < xs.idxOf p + 1 ∧ xs.idxOf p + 1 ≤ xs.length ∧ xs.length = xs.length ∧ xs.take (xs.idxOf p) = del p (xs.take (xs.idxOf p + 1)) ∧ xs.drop (xs.idxOf p + 1) = xs.drop (xs.idxOf p + 1) := by
  have hm := idxI_mem h
  have hl := List.idxOf_lt_length_of_mem hm
  refine ⟨by omega, hl, rfl, ?_, rfl⟩
  rw [List.take_succ_eq_append_getElem hl]
  unfold del
  rw [List.filter_append]
  have h1 : (xs.take (xs.idxOf p)).filter (fun q => !decide (q = p)) = xs.take (xs.idxOf p) := by
    rw [List.filter_eq_self]
    intro q hq
    simp only [Bool.not_eq_true', decide_eq_false_iff_not]
    intro e; subst e
    obtain ⟨i, hi, he⟩ := List.mem_take_iff_getElem.1 hq
    have h3 : i < xs.idxOf q := by omega
    exact absurd he (by simpa using List.not_of_lt_findIdx (p := (· == q)) (xs := xs) (by simpa [List.idxOf] using h3))
  have h2 : xs[xs.idxOf p] = p := List.getElem_idxOf hl
  rw [h1, h2]; simp
theorem keep_step {p : SpP} {xs zs : List SpP} {i j : Nat} (hj : j < xs.length) (hj2 : j < zs.length) (h : i < j ∧ j ≤ xs.length ∧ zs.length = xs.length ∧ zs.take i = del p (xs.take j) ∧ zs.drop j = xs.drop j) (hn : ¬ zs[j] = p) :
    i + 1 < j + 1 ∧ j + 1 ≤ xs.length ∧ (zs.set i zs[j]).length = xs.length ∧ (zs.set i zs[j]).take (i + 1) = del p (xs.take (j + 1)) ∧ (zs.set i zs[j]).drop (j + 1) = xs.drop (j + 1) := by
  obtain ⟨h1, _, h3, h4, h5⟩ := h
  have e : zs[j] = xs[j] := by
    have := congrArg (fun l => l[0]?) h5
    simpa [List.getElem?_drop, List.getElem?_eq_getElem (show j < zs.length by omega), List.getElem?_eq_getElem hj] using this
  refine ⟨by omega, hj, by simp [h3], ?_, ?_⟩
  · rw [List.take_succ_eq_append_getElem (by simp; omega), List.take_set_of_le (Nat.le_refl i), h4, List.take_succ_eq_append_getElem hj]
    unfold del
    rw [List.filter_append]
    have : ¬ xs[j] = p := e ▸ hn
    simp [e, this]
  · rw [List.drop_set_of_lt (by omega)]
    have := congrArg (List.drop 1) h5
    simpa [List.drop_drop, Nat.add_comm] using this
theorem skip_step {p : SpP} {xs zs : List SpP} {i j : Nat} (hj : j < xs.length) (hj2 : j < zs.length) (h : i < j ∧ j ≤ xs.length ∧ zs.length = xs.length ∧ zs.take i = del p (xs.take j) ∧ zs.drop j = xs.drop j) (hn : zs[j] = p) :
    i < j + 1 ∧ j + 1 ≤ xs.length ∧ zs.length = xs.length ∧ zs.take i = del p (xs.take (j + 1)) ∧ zs.drop (j + 1) = xs.drop (j + 1) := by
  obtain ⟨h1, _, h3, h4, h5⟩ := h
  have e : zs[j] = xs[j] := by
    have := congrArg (fun l => l[0]?) h5
    simpa [List.getElem?_drop, List.getElem?_eq_getElem (show j < zs.length by omega), List.getElem?_eq_getElem hj] using this
  refine ⟨by omega, hj, h3, ?_, ?_⟩
  · rw [h4, List.take_succ_eq_append_getElem hj]
    unfold del
    rw [List.filter_append]
    have : xs[j] = p := e ▸ hn
    simp [this]
  · have := congrArg (List.drop 1) h5
    simpa [List.drop_drop, Nat.add_comm] using this
theorem del_end {p : SpP} {xs zs : List SpP} {i j n : Nat} {z : SpP} (hj : xs.length ≤ j) (hi : i ≤ zs.length) (h : zs.take i = del p (xs.take j)) : (zs.take i ++ List.replicate n z).take i = del p xs := by
  rw [List.take_left' (by simp; omega), h, List.take_of_length_le hj]
theorem sub0 (o : Ow) (n : Nat) : (o.vs.sub 0 n).adr = o.adr ∧ (o.vs.sub 0 n).cap = o.cap := by
  simp [Vs.sub, Vs.adr, Ow.vs, Ow.adr]
theorem Ow.ok_of_len {α : Type} [Enc α] {o : Ow} {xs zs : List α} (h : o.ok xs) (e : zs.length = xs.length) : o.ok zs :=
  ⟨fun hn => by have := h.nl hn; rw [this.1] at e; exact ⟨List.eq_nil_of_length_eq_zero e, this.2⟩, fun hn => by rw [e]; exact h.len hn, by rw [e]; exact h.le⟩

theorem Take1_ct (bp : Nat) (p q : SpP) : Ct Try.prog 42 [val q, .pointer (some ⟨bp, 0, none⟩)] [] [[(bp, .cells (cat [pt p.header, pt p.n]) 72)]] (fun v w r => v = .bool (decide (q = p)) ∧ w = [] ∧ r = []) := by
  refine ct_enter Try.func42 rfl Try.ntmps42 (by kernel_rfl) rfl fun w0 => ?_
  refine c_seq ?_
  refine c_reg ?_
  refine bxx [pt q.header, pt q.n] _ rfl rfl fun b2 => ⟨trivial, ?_⟩
  refine asg (.bool _) rfl ?_
  refine jt ?_
  refine c_seq ?_
  refine c_reg ?_
  refine ldw 0 _ rfl rfl ty72 ?_
  refine ldw 1 _ rfl rfl ty72 ?_
  refine eqA q p _ rfl rfl rfl rfl eq72 rfl Try.eqGuardType72 rfl ?_
  refine asg (.bool _) rfl ?_
  refine jt ?_
  refine c_ret ?_
  exact j_end (own0 := []) (ro0 := [[(bp, .cells (cat [pt p.header, pt p.n]) 72)]]) (.inl rfl) rfl (hr1 Try.results42 (rvt (v := (.bool _)) rfl)) [] [0] [] [_] [] _ rfl rfl (by kernel_rfl) rfl impl_nil (⟨rfl, rfl, rfl⟩)

theorem Index_ct (s : Vs) (xs : List SpP) (hs : s.ok xs) (hx : xs.length ≤ 9223372036854775806) (bp : Nat) (p : SpP) : Ct Try.prog 54 [s.v xs.length, .func (.func 42) #[] #[.pointer (some ⟨bp, 0, none⟩)]] [] [s.seg xs, [(bp, .cells (cat [pt p.header, pt p.n]) 72)]] (fun v w r => v = .int .i64 (idxI p xs) ∧ w = [] ∧ r = []) := by
  refine ct_enter Try.func54 rfl Try.ntmps54 (by kernel_rfl) rfl fun w0 => ?_
  refine c_seq ?_
  refine c_reg ?_
  refine asg (.int _ _) rfl ?_
  refine jt ?_
  refine c_seq ?_
  refine c_seq ?_
  refine c_reg ?_
  refine mv (.slice _ _ _) rfl ?_
  refine lenS rfl Try.underlying74 ?_
  refine mv (.int _ _) rfl ?_
  refine jt ?_
  refine c_block ?_
  refine c_loop (σ := Nat) (fun k => k ≤ xs.length ∧ p ∉ xs.take k) (fun k => xs.length - k) (fun k => [(8, .int .i64 (k : Int))]) (fun k => []) (fun k => [s.seg xs, [(bp, .cells (cat [pt p.header, pt p.n]) 72)]]) [4, 5, 8, 9, 10, 11, 12, 13, 14, 15, 16, 17, 18] 0 (⟨by omega, by simp⟩) ⟨rfl, trivial⟩ rfl rfl ?_
  rintro k g1 hI1
  try dsimp only at hI1 ⊢
  refine c_seq ?_
  refine c_reg ?_
  refine cmp _ rfl rfl rfl ?_
  refine jt ?_
  refine c_seq ?_
  refine c_cond rfl (fun h1 => ?_) (fun h1 => ?_)
  · replace h1 := of_decide_eq_true h1
    refine c_skip ?_
    refine e_then ?_
    refine c_seq ?_
    refine c_block ?_
    refine c_seq ?_
    refine c_reg ?_
    refine mv (.int _ _) rfl ?_
    refine asg (.int _ _) rfl ?_
    refine jt ?_
    refine c_seq ?_
    refine c_reg ?_
    refine mv (.func _ _ _) rfl ?_
    refine mv (.slice _ _ _) rfl ?_
    refine mv (.int _ _) rfl ?_
    refine ixs s xs k hs rfl rfl rfl Try.underlying74 ty72.sz rfl (by first | omega | (simp; done) | (simp; omega) | (simp at *; omega)) ?_
    refine ldvs 0 _ hs rfl rfl rfl rfl (by first | omega | (simp; done) | (simp; omega) | (simp at *; omega)) ty72 ?_
    refine calv (Take1_ct bp p (xs[k])) rfl [] [] [] rfl rfl rfl (by kernel_rfl) (impl_cons (impl_at 1 rfl) impl_nil) rfl ?_; rintro _ _ _ ⟨rfl, rfl, rfl⟩; refine ⟨trivial, ?_⟩
    refine jt ?_
    refine c_cond rfl (fun h2 => ?_) (fun h2 => ?_)
    · replace h2 := of_decide_eq_true h2
      refine c_seq ?_
      refine c_reg ?_
      refine mv (.int _ _) rfl ?_
      refine asg (.int _ _) rfl ?_
      refine jt ?_
      refine c_ret ?_
      exact j_end (own0 := []) (ro0 := [s.seg xs, [(bp, .cells (cat [pt p.header, pt p.n]) 72)]]) (.inl rfl) rfl (hr1 Try.results54 (rvt (v := (.int _ _)) rfl)) [] [] [] [] [] _ rfl rfl (by kernel_rfl) rfl impl_nil (⟨by rw [idx_at (by omega) hI1.2 h2], rfl, rfl⟩)
    · replace h2 := of_decide_eq_false h2
      refine c_skip ?_
      refine e_in ?_
      refine e_then ?_
      refine c_reg ?_
      refine addi rfl rfl rfl (by omega) ?_
      refine mv (.int _ _) rfl ?_
      refine jn ?_
      exact e_loop (k + 1) (⟨by omega, nin_next (by omega) hI1.2 h2⟩) (by (try dsimp only); omega) (⟨rfl, trivial⟩) rfl rfl rfl
  · replace h1 := of_decide_eq_false h1
    refine c_exit rfl ?_
    refine e_then ?_
    refine c_seq ?_
    refine c_reg ?_
    refine asg (.int _ _) rfl ?_
    refine jt ?_
    refine c_ret ?_
    exact j_end (own0 := []) (ro0 := [s.seg xs, [(bp, .cells (cat [pt p.header, pt p.n]) 72)]]) (.inl rfl) rfl (hr1 Try.results54 (rvt (v := (.int _ _)) rfl)) [] [] [] [] [] _ rfl rfl (by kernel_rfl) rfl impl_nil (⟨by rw [idx_no (show xs.length ≤ k by omega) hI1.2], rfl, rfl⟩)

set_option maxRecDepth 20000 in
set_option maxHeartbeats 4000000 in
theorem Delete_ct (o : Ow) (xs : List SpP) (ho : o.ok xs) (hx : xs.length ≤ 2000) (bp : Nat) (p : SpP) : Ct Try.prog 41 [o.v xs.length, .func (.func 42) #[] #[.pointer (some ⟨bp, 0, none⟩)]] [o.seg xs 72] [[(bp, .cells (cat [pt p.header, pt p.n]) 72)]] (fun v w r => ∃ o' : Ow, o'.ok (del p xs) ∧ v = .slice o'.adr (del p xs).length o'.cap ∧ w = [o'.seg (del p xs) 72] ∧ r = []) := by
  have hge := idxI_ge p xs
  have hle := idxI_le p xs
  refine ct_enter Try.func41 rfl Try.ntmps41 (by kernel_rfl) rfl fun w0 => ?_
  refine c_seq ?_
  refine c_reg ?_
  refine asg (.slice _ _ _) rfl ?_
  refine jt ?_
  refine c_seq ?_
  refine c_reg ?_
  refine mv (.slice _ _ _) rfl ?_
  refine mv (.func _ _ _) rfl ?_
  refine cal (Index_ct ((o).vs) xs (Ow.vs_ok ho) (by omega) bp p) [] [0] [_] rfl rfl rfl (by kernel_rfl) (impl_cons (ow_impl 1 rfl) (impl_cons (impl_at 0 rfl) impl_nil)) rfl ?_; rintro _ _ _ ⟨rfl, rfl, rfl⟩; refine ⟨trivial, ?_⟩
  refine asg (.int _ _) rfl ?_
  refine jt ?_
  refine c_seq ?_
  refine c_seq ?_
  refine c_reg ?_
  refine mv (.int _ _) rfl ?_
  refine cmp _ rfl rfl rfl ?_
  refine jt ?_
  refine c_cond rfl (fun h1 => ?_) (fun h1 => ?_)
  · replace h1 := of_decide_eq_true h1
    refine c_seq ?_
    refine c_reg ?_
    refine mv (.slice _ _ _) rfl ?_
    refine asg (.slice _ _ _) rfl ?_
    refine jt ?_
    refine c_ret ?_
    exact j_end (own0 := [o.seg xs 72]) (ro0 := [[(bp, .cells (cat [pt p.header, pt p.n]) 72)]]) (.inl rfl) rfl (hr1 Try.results41 (rvt (v := (.slice _ _ _)) rfl)) [0] [] [_] [] [] _ rfl rfl (by kernel_rfl) rfl impl_nil (have e := del_no h1; ⟨o, by rw [e]; exact ho, by rw [e], by rw [e], rfl⟩)
  · replace h1 := of_decide_eq_false h1
    refine c_skip ?_
    refine e_then ?_
    refine c_seq ?_
    refine c_seq ?_
    refine c_reg ?_
    refine mv (.int _ _) rfl ?_
    refine addi rfl rfl rfl (by omega) ?_
    refine asg (.int _ _) rfl ?_
    refine jt ?_
    refine c_block ?_
    refine c_loop (σ := Nat × Nat × List SpP) (fun ⟨i, j, zs⟩ => i < j ∧ j ≤ xs.length ∧ zs.length = xs.length ∧ zs.take i = del p (xs.take j) ∧ zs.drop j = xs.drop j) (fun ⟨i, j, zs⟩ => xs.length - j) (fun ⟨i, j, zs⟩ => [(5, .int .i64 (i : Int)), (6, .int .i64 (j : Int))]) (fun ⟨i, j, zs⟩ => [o.seg zs 72]) (fun ⟨i, j, zs⟩ => [[(bp, .cells (cat [pt p.header, pt p.n]) 72)]]) [5, 6, 7, 16, 17, 18, 19, 20, 21, 22, 23, 24, 25, 26, 27, 28, 29, 30, 31, 32, 33, 34, 35] (⟨xs.idxOf p, xs.idxOf p + 1, xs⟩) (del_start h1) ⟨congrArg (Value.int .i64) (idxI_eq h1), congrArg (Value.int .i64) (by have := idxI_eq h1; omega), trivial⟩ rfl rfl ?_
    rintro ⟨i, j, zs⟩ g1 hI1
    try dsimp only at hI1 ⊢
    refine c_seq ?_
    refine c_seq ?_
    refine c_reg ?_
    refine mv (.int _ _) rfl ?_
    refine mv (.slice _ _ _) rfl ?_
    refine lenS rfl Try.underlying74 ?_
    refine cmp _ rfl rfl rfl ?_
    refine jt ?_
    refine c_cond rfl (fun h2 => ?_) (fun h2 => ?_)
    · replace h2 := of_decide_eq_true h2
      refine c_skip ?_
      refine e_then ?_
      refine c_seq ?_
      refine c_block ?_
      refine c_seq ?_
      refine c_reg ?_
      refine mv (.slice _ _ _) rfl ?_
      refine mv (.int _ _) rfl ?_
      refine ixs ((o).vs) zs j (Ow.vs_ok (Ow.ok_of_len ho hI1.2.2.1)) rfl (by omega) rfl Try.underlying74 ty72.sz rfl (by first | omega | (simp; done) | (simp; omega) | (simp at *; omega)) ?_
      refine ldso 0 _ (Ow.ok_of_len ho hI1.2.2.1) rfl rfl rfl rfl (by first | omega | (simp; done) | (simp; omega) | (simp at *; omega)) ty72 ?_
      refine alo [pt (zarr : Key), p1 (.int .u32 0)] _ z72 rfl fun b7 => ⟨trivial, ?_⟩
      refine stw 1 _ [pt (zs[j].header), pt (zs[j].n)] rfl rfl rfl rfl ty72 ⟨trivial, ?_⟩
      refine jt ?_
      refine c_seq ?_
      refine c_reg ?_
      refine mv (.func _ _ _) rfl ?_
      refine ldw 1 _ rfl rfl ty72 ?_
      refine calv (Take1_ct bp p (zs[j])) rfl [] [0, 1] [_, _] rfl rfl rfl (by kernel_rfl) (impl_cons (impl_at 0 rfl) impl_nil) rfl ?_; rintro _ _ _ ⟨rfl, rfl, rfl⟩; refine ⟨trivial, ?_⟩
      refine not_ rfl ?_
      refine jt ?_
      refine c_cond rfl (fun h3 => ?_) (fun h3 => ?_)
      · replace h3 := ndt h3
        refine c_seq ?_
        refine c_reg ?_
        refine mv (.slice _ _ _) rfl ?_
        refine mv (.int _ _) rfl ?_
        refine ldw 1 _ rfl rfl ty72 ?_
        refine ixs ((o).vs) zs i (Ow.vs_ok (Ow.ok_of_len ho hI1.2.2.1)) rfl (by omega) rfl Try.underlying74 ty72.sz rfl (by omega) ?_
        refine sto 0 i (zs[j]) (Ow.ok_of_len ho hI1.2.2.1) rfl rfl rfl rfl rfl (by omega) ty72 ⟨trivial, ?_⟩
        refine jt ?_
        refine c_reg ?_
        refine mv (.int _ _) rfl ?_
        refine addi rfl rfl rfl (by omega) ?_
        refine asg (.int _ _) rfl ?_
        refine jn ?_
        refine e_in ?_
        refine e_then ?_
        refine c_reg ?_
        refine mv (.int _ _) rfl ?_
        refine addi rfl rfl rfl (by omega) ?_
        refine asg (.int _ _) rfl ?_
        refine jn ?_
        refine e_keep [0] [1] [_] rfl (by kernel_rfl) ?_
        exact e_loop (⟨i + 1, j + 1, zs.set i zs[j]⟩ : Nat × Nat × List SpP) (keep_step (show j < xs.length by omega) (show j < zs.length by omega) hI1 h3) (by (try dsimp only); omega) (⟨rfl, rfl, trivial⟩) rfl rfl rfl
      · replace h3 := ndf h3
        refine c_skip ?_
        refine e_in ?_
        refine e_then ?_
        refine c_reg ?_
        refine mv (.int _ _) rfl ?_
        refine addi rfl rfl rfl (by omega) ?_
        refine asg (.int _ _) rfl ?_
        refine jn ?_
        refine e_keep [0] [1] [_] rfl (by kernel_rfl) ?_
        exact e_loop (⟨i, j + 1, zs⟩ : Nat × Nat × List SpP) (skip_step (show j < xs.length by omega) (show j < zs.length by omega) hI1 h3) (by (try dsimp only); omega) (⟨rfl, rfl, trivial⟩) rfl rfl rfl
    · replace h2 := of_decide_eq_false h2
      refine c_exit rfl ?_
      refine e_then ?_
      refine c_seq ?_
      refine c_reg ?_
      refine mv (.slice _ _ _) rfl ?_
      refine mv (.int _ _) rfl ?_
      refine sli ((o).vs) i xs.length rfl Try.underlying74 ty72.sz (⟨_, rfl⟩) rfl (by have := ho.le; have : o.vs.cap = o.cap := rfl; omega) (by have := ho.le; have : o.vs.cap = o.cap := rfl; omega) (by have := ho.le; have : o.vs.cap = o.cap := rfl; omega) ?_
      refine clr 0 i ⟨zarr, 0⟩ rfl (Ow.ok_of_len ho hI1.2.2.1) (by omega) rfl rfl (by omega) rfl Try.underlying74 zw72 ⟨trivial, ?_⟩
      refine jt ?_
      refine c_seq ?_
      refine c_reg ?_
      refine mv (.slice _ _ _) rfl ?_
      refine mv (.int _ _) rfl ?_
      refine sli ((o).vs) 0 i rfl Try.underlying74 ty72.sz rfl (⟨_, rfl⟩) (by have := ho.le; have : o.vs.cap = o.cap := rfl; omega) (by have := ho.le; have : o.vs.cap = o.cap := rfl; omega) (by have := ho.le; have : o.vs.cap = o.cap := rfl; omega) ?_
      refine asg (.slice _ _ _) rfl ?_
      refine jt ?_
      refine c_ret ?_
      exact j_end (own0 := [o.seg xs 72]) (ro0 := [[(bp, .cells (cat [pt p.header, pt p.n]) 72)]]) (.inl rfl) rfl (hr1 Try.results41 (rvt (v := (.slice _ _ _)) rfl)) [0] [] [_] [] [] _ rfl rfl (by kernel_rfl) rfl impl_nil (by have e := del_end (zs := zs) (n := zs.length - i) (z := ⟨zarr, 0⟩) (show xs.length ≤ j by omega) (show i ≤ zs.length by omega) hI1.2.2.2.1; exact ⟨o.cut (zs.take i ++ List.replicate (zs.length - i) ⟨zarr, 0⟩) i, by rw [← e]; exact Ow.cut_ok (Ow.ok_clr (Ow.ok_of_len ho hI1.2.2.1) i (by omega) ⟨zarr, 0⟩) i (by simp; omega), by rw [← e, (sub0 o 33).1, (sub0 o 33).2]; simp only [List.length_take, List.length_append, List.length_replicate]; rw [show min i (min i zs.length + (zs.length - i)) = i - 0 by omega]; rfl, by rw [← e, ← Ow.cut_seg], rfl⟩)
end Go.Proofs.Ytacfjmjcgolhfaa
