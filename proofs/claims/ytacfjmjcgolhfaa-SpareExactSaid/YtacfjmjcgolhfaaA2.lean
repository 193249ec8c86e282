/- Contracts of the program's functions, walked. No condition. -/
import Derived.Test.YtacfjmjcgolhfaaA1
namespace Go.Proofs.Ytacfjmjcgolhfaa
open Go Go.Proofs Go.PW
open Go.PW.Enc (enc val)
theorem ty33 : Ty Try.prog 33 65 true := ⟨by kernel_rfl, by kernel_rfl⟩
theorem by33 : (Try.prog.info? 33).map (·.bytes) = some 68 := by kernel_rfl
theorem zw33 : Zt Try.prog 33 (val (⟨zarr, 0, zarr⟩ : Spare)) := by unfold Zt; kernel_rfl
theorem lay33 : ∀ fs, Try.prog.underlying 33 = some (.struct fs) → Lay Try.prog fs [(0, 32), (32, 1), (33, 32)] := fun fs h => by rw [Try.underlying33] at h; cases h; unfold Lay; kernel_rfl
theorem z33 : Zt Try.prog 33 (.agg ⟨cat [pt (zarr : Key), p1 (.int .u32 0), pt (zarr : Key)]⟩) := by unfold Zt; kernel_rfl
theorem any_yes {xs : List Spare} {x : Spare} {k : Nat} (hk : k < xs.length) (h : meets xs[k] x = true) : (xs.any fun y => meets y x) = true := List.any_eq_true.2 ⟨_, List.getElem_mem hk, h⟩
theorem any_no {xs : List Spare} {x : Spare} {k : Nat} (hk : xs.length ≤ k) (h : ∀ y ∈ xs.take k, meets y x = false) : (xs.any fun y => meets y x) = false := by
  rw [List.take_of_length_le hk] at h
  exact List.any_eq_false.2 fun y hy => by simp [h y hy]
theorem fnd_none {α β : Type} [DecidableEq α] (k : α) : ∀ (kv : List (α × β)) (i : Nat), fnd k kv i = none ↔ k ∉ kv.map (·.1)
  | [], i => by simp [fnd]
  | p :: r, i => by
    simp only [fnd, List.map_cons, List.mem_cons, not_or]
    by_cases h : k = p.1
    · simp [h]
    · simp [h, fnd_none k r (i + 1)]
theorem mget_none {α β : Type} [DecidableEq α] {k : α} {kv : List (α × β)} : mget k kv = none ↔ k ∉ kv.map (·.1) := by simp [mget, fnd_none]
theorem mget_at {α β : Type} [DecidableEq α] : ∀ {kv : List (α × β)}, (kv.map (·.1)).Nodup → ∀ {i : Nat} (h : i < kv.length), mget (kv[i]).1 kv = some (kv[i]).2 := by
  have key : ∀ (kv : List (α × β)), (kv.map (·.1)).Nodup → ∀ (i j : Nat) (h : i < kv.length), (fnd (kv[i]).1 kv j).map (·.2) = some (kv[i]).2 := by
    intro kv
    induction kv with
    | nil => intro _ i j h; simp at h
    | cons p r ih =>
      intro hnd i j h
      simp only [List.map_cons, List.nodup_cons] at hnd
      cases i with
      | zero => simp [fnd]
      | succ i =>
        have hne : (r[i]'(by simpa using h)).1 ≠ p.1 := fun e => hnd.1 (e ▸ List.mem_map.2 ⟨_, List.getElem_mem _, rfl⟩)
        simp only [List.getElem_cons_succ, fnd, hne, if_false]
        exact ih hnd.2 i (j + 1) (by simpa using h)
  exact fun {kv} h i hi => key kv h i 0 hi
theorem skv_fst (l : List Spare) : (l.map skv).map (·.1) = l.map plc := by simp [skv, Function.comp_def]
theorem list_next {l : List Spare} {k : Nat} (hnd : (l.map plc).Nodup) (hk : k < l.length) : l.take (k + 1) = l.take k ++ [(⟨((l.map plc)[k]'(by simpa)).header, ((l.map plc)[k]'(by simpa)).n, (mget ((l.map plc)[k]'(by simpa)) (l.map skv)).getD zarr⟩ : Spare)] := by
  rw [List.take_succ_eq_append_getElem hk]
  have h1 := mget_at (kv := l.map skv) (by rw [skv_fst]; exact hnd) (i := k) (by simpa)
  simp only [List.getElem_map, skv] at h1
  simp only [List.getElem_map]
  have h2 : mget (plc l[k]) (l.map skv) = some l[k].message := by simpa [skv, Function.comp_def] using h1
  rw [h2]; rfl
theorem all_next {α : Type} {p : α → Bool} {xs : List α} {k : Nat} (hk : k < xs.length) (h : ∀ y ∈ xs.take k, p y = false) (h2 : p xs[k] = false) : ∀ y ∈ xs.take (k + 1), p y = false := by
  rw [List.take_succ_eq_append_getElem hk]
  intro y hy
  rcases List.mem_append.1 hy with h3 | h3
  · exact h y h3
  · rw [List.mem_singleton] at h3; subst h3; exact h2

theorem sameSpares_ct (s t : Vs) (xs ys : List Spare) (hs : s.ok xs) (ht : t.ok ys) (hx : xs.length ≤ 9223372036854775806) : Ct Try.prog 13 [s.v xs.length, t.v ys.length] [] [s.seg xs, t.seg ys] (fun v o r => v = .bool (decide (xs = ys)) ∧ o = [] ∧ r = []) := by
  refine ct_enter Try.func13 rfl Try.ntmps13 (by kernel_rfl) rfl fun w0 => ?_
  refine c_seq ?_
  refine c_reg ?_
  refine asg (.bool _) rfl ?_
  refine jt ?_
  refine c_seq ?_
  refine c_seq ?_
  refine c_reg ?_
  refine mv (.slice _ _ _) rfl ?_
  refine lenS rfl Try.underlying22 ?_
  refine mv (.slice _ _ _) rfl ?_
  refine lenS rfl Try.underlying22 ?_
  refine cmp _ rfl rfl rfl ?_
  refine jt ?_
  refine c_cond rfl (fun h1 => ?_) (fun h1 => ?_)
  · replace h1 := ndt h1
    refine c_seq ?_
    refine c_reg ?_
    refine asg (.bool _) rfl ?_
    refine jt ?_
    refine c_ret ?_
    exact j_end (own0 := []) (ro0 := [s.seg xs, t.seg ys]) (.inl rfl) rfl (hr1 Try.results13 (rvt (v := (.bool _)) rfl)) [] [] [] [] [] _ rfl rfl (by kernel_rfl) rfl impl_nil (⟨by simp [show xs ≠ ys from fun e => by subst e; exact h1 rfl], rfl, rfl⟩)
  · replace h1 := ndf h1
    refine c_skip ?_
    refine e_then ?_
    refine c_seq ?_
    refine c_seq ?_
    refine c_reg ?_
    refine asg (.int _ _) rfl ?_
    refine jt ?_
    refine c_block ?_
    refine c_loop (σ := Nat) (fun k => k ≤ xs.length ∧ xs.length = ys.length ∧ xs.take k = ys.take k) (fun k => xs.length - k) (fun k => [(5, .int .i64 (k : Int))]) (fun k => []) (fun k => [s.seg xs, t.seg ys]) [4, 5, 11, 12, 13, 14, 15, 16, 17, 18, 19, 20, 21, 22, 23, 24, 25] 0 (⟨by omega, by omega, by simp⟩) ⟨rfl, trivial⟩ rfl rfl ?_
    rintro k g1 hI1
    try dsimp only at hI1 ⊢
    refine c_seq ?_
    refine c_seq ?_
    refine c_reg ?_
    refine mv (.int _ _) rfl ?_
    refine mv (.slice _ _ _) rfl ?_
    refine lenS rfl Try.underlying22 ?_
    refine cmp _ rfl rfl rfl ?_
    refine jt ?_
    refine c_cond rfl (fun h2 => ?_) (fun h2 => ?_)
    · replace h2 := of_decide_eq_true h2
      refine c_skip ?_
      refine e_then ?_
      refine c_seq ?_
      refine c_block ?_
      refine c_seq ?_
      refine c_dr [_, _] [] [(0, 0), (1, 0), (2, 0), (3, 0), (4, 0), (5, 0), (6, 0), (7, 0), (8, 0)] follows (by kernel_rfl) calm_body (keepS [0, 1] rfl) ?_
      refine mv (.slice _ _ _) rfl ?_
      refine mv (.int _ _) rfl ?_
      refine ixs s xs k hs rfl rfl rfl Try.underlying22 ty33.sz rfl (by first | omega | (simp; done) | (simp; omega) | (simp at *; omega)) ?_
      refine ldvs 0 _ hs rfl rfl rfl rfl (by first | omega | (simp; done) | (simp; omega) | (simp at *; omega)) ty33 ?_
      refine mv (.slice _ _ _) rfl ?_
      refine mv (.int _ _) rfl ?_
      refine ixs t ys k ht rfl rfl rfl Try.underlying22 ty33.sz rfl (by first | omega | (simp; done) | (simp; omega) | (simp at *; omega)) ?_
      refine ldvs 1 _ ht rfl rfl rfl rfl (by first | omega | (simp; done) | (simp; omega) | (simp at *; omega)) ty33 ?_
      refine eqA (xs[k]) (ys[k]) _ rfl rfl rfl rfl eq33 rfl Try.eqGuardType33 rfl ?_
      refine jt ?_
      refine c_cond rfl (fun h3 => ?_) (fun h3 => ?_)
      · replace h3 := ndt h3
        refine c_seq ?_
        refine c_reg ?_
        refine asg (.bool _) rfl ?_
        refine jt ?_
        refine c_ret ?_
        exact j_end (own0 := []) (ro0 := [s.seg xs, t.seg ys]) (.inl rfl) rfl (hr1 Try.results13 (rvt (v := (.bool _)) rfl)) [] [] [] [] [] _ rfl rfl (by kernel_rfl) rfl impl_nil (⟨by simp [show xs ≠ ys from fun e => h3 (by subst e; rfl)], rfl, rfl⟩)
      · replace h3 := ndf h3
        refine c_skip ?_
        refine e_in ?_
        refine e_then ?_
        refine c_reg ?_
        refine mv (.int _ _) rfl ?_
        refine addi rfl rfl rfl (by omega) ?_
        refine asg (.int _ _) rfl ?_
        refine jn ?_
        exact e_loop (k + 1) (⟨by omega, hI1.2.1, take_next (by omega) (by omega) hI1.2.2 h3⟩) (by (try dsimp only); omega) (⟨rfl, trivial⟩) rfl rfl rfl
    · replace h2 := of_decide_eq_false h2
      refine c_exit rfl ?_
      refine e_then ?_
      refine c_seq ?_
      refine c_reg ?_
      refine asg (.bool _) rfl ?_
      refine jt ?_
      refine c_ret ?_
      exact j_end (own0 := []) (ro0 := [s.seg xs, t.seg ys]) (.inl rfl) rfl (hr1 Try.results13 (rvt (v := (.bool _)) rfl)) [] [] [] [] [] _ rfl rfl (by kernel_rfl) rfl impl_nil (⟨by simp [take_all_eq (show xs.length ≤ k by omega) hI1.2.1 hI1.2.2], rfl, rfl⟩)

theorem has_ct (s : Vs) (xs : List Spare) (hs : s.ok xs) (hx : xs.length ≤ 9223372036854775806) (x : Spare) : Ct Try.prog 11 [s.v xs.length, val x] [] [s.seg xs] (fun v o r => v = .bool (xs.any fun y => meets y x) ∧ o = [] ∧ r = []) := by
  refine ct_enter Try.func11 rfl Try.ntmps11 (by kernel_rfl) rfl fun w0 => ?_
  refine c_seq ?_
  refine c_reg ?_
  refine bxx [pt x.header, pt x.n, pt x.message] _ rfl rfl fun b3 => ⟨trivial, ?_⟩
  refine asg (.bool _) rfl ?_
  refine jt ?_
  refine c_seq ?_
  refine c_seq ?_
  refine c_reg ?_
  refine asg (.int _ _) rfl ?_
  refine jt ?_
  refine c_block ?_
  refine c_loop (σ := Nat) (fun k => k ≤ xs.length ∧ ∀ y ∈ xs.take k, meets y x = false) (fun k => xs.length - k) (fun k => [(5, .int .i64 (k : Int))]) (fun k => [[(b3, .cells (cat [pt x.header, pt x.n, pt x.message]) 33)]]) (fun k => [s.seg xs]) [4, 5, 6, 7, 8, 9, 10, 11, 12, 13, 14, 15, 16, 17] 0 (⟨by omega, by simp⟩) ⟨rfl, trivial⟩ rfl rfl ?_
  rintro k g1 hI1
  try dsimp only at hI1 ⊢
  refine c_seq ?_
  refine c_seq ?_
  refine c_reg ?_
  refine mv (.int _ _) rfl ?_
  refine mv (.slice _ _ _) rfl ?_
  refine lenS rfl Try.underlying22 ?_
  refine cmp _ rfl rfl rfl ?_
  refine jt ?_
  refine c_cond rfl (fun h1 => ?_) (fun h1 => ?_)
  · replace h1 := of_decide_eq_true h1
    refine c_skip ?_
    refine e_then ?_
    refine c_seq ?_
    refine c_block ?_
    refine c_seq ?_
    refine c_dr [_, _] [] [(0, 0), (1, 0), (2, 0), (3, 0), (4, 0), (5, 1)] follows (by kernel_rfl) calm_body (keepS [0, 1] rfl) ?_
    refine mv (.slice _ _ _) rfl ?_
    refine mv (.int _ _) rfl ?_
    refine ixs s xs k hs rfl rfl rfl Try.underlying22 ty33.sz rfl (by first | omega | (simp; done) | (simp; omega) | (simp at *; omega)) ?_
    refine ldvs 1 _ hs rfl rfl rfl rfl (by first | omega | (simp; done) | (simp; omega) | (simp at *; omega)) ty33 ?_
    refine ldw 0 _ rfl rfl ty33 ?_
    refine cal (meet_ct xs[k] x) [] [0] [_] rfl rfl rfl (by kernel_rfl) impl_nil rfl ?_; rintro _ _ _ ⟨rfl, rfl, rfl⟩; refine ⟨keepI [0, 1] rfl, ?_⟩
    refine jt ?_
    refine c_cond rfl (fun h2 => ?_) (fun h2 => ?_)
    · refine c_seq ?_
      refine c_reg ?_
      refine asg (.bool _) rfl ?_
      refine jt ?_
      refine c_ret ?_
      exact j_end (own0 := []) (ro0 := [s.seg xs]) (.inl rfl) rfl (hr1 Try.results11 (rvt (v := (.bool _)) rfl)) [] [0] [] [_] [] _ rfl rfl (by kernel_rfl) rfl impl_nil (⟨by rw [any_yes (by omega) h2], rfl, rfl⟩)
    · refine c_skip ?_
      refine e_in ?_
      refine e_then ?_
      refine c_reg ?_
      refine mv (.int _ _) rfl ?_
      refine addi rfl rfl rfl (by omega) ?_
      refine asg (.int _ _) rfl ?_
      refine jn ?_
      exact e_loop (k + 1) (⟨by omega, all_next (by omega) hI1.2 h2⟩) (by (try dsimp only); omega) (⟨rfl, trivial⟩) rfl rfl rfl
  · replace h1 := of_decide_eq_false h1
    refine c_exit rfl ?_
    refine e_then ?_
    refine c_seq ?_
    refine c_reg ?_
    refine asg (.bool _) rfl ?_
    refine jt ?_
    refine c_ret ?_
    exact j_end (own0 := []) (ro0 := [s.seg xs]) (.inl rfl) rfl (hr1 Try.results11 (rvt (v := (.bool _)) rfl)) [] [0] [] [_] [] _ rfl rfl (by kernel_rfl) rfl impl_nil (⟨by rw [any_no (show xs.length ≤ k by omega) hI1.2], rfl, rfl⟩)

theorem List_ct (bs m : Nat) (o : Ow) (most : Int) (l : List Spare) (ho : o.ok (List.map plc l)) (hl : l.length ≤ 2000) (hnd : (l.map plc).Nodup) : Ct Try.prog 14 [.pointer (some ⟨bs, 0, none⟩)] [] [[(bs, .cells (cat [p1 (.int .i64 most), p1 (.map (some m)), p1 (.slice o.adr (List.map plc l).length o.cap)]) 76)], [(m, .pred (isMap (List.map skv l)))], o.seg (List.map plc l) 72] (fun v o r => ∃ o' : Ow, o'.ok l ∧ v = .slice o'.adr l.length o'.cap ∧ o = [o'.seg l 33] ∧ r = []) := by
  have hl2 : (List.map plc l).length ≤ 2000 := by simpa using hl
  refine ct_enter Try.func14 rfl Try.ntmps14 (by kernel_rfl) rfl fun w0 => ?_
  refine c_seq ?_
  refine c_reg ?_
  refine asg (.slice _ _ _) rfl ?_
  refine jt ?_
  refine c_seq ?_
  refine c_reg ?_
  refine mv (.pointer _) rfl ?_
  refine nlc rfl ?_
  refine fad rfl Try.underlying76 rfl ty74.sz ?_
  refine ldp 0 2 _ rfl rfl rfl rfl ty74 ?_
  refine lenS rfl Try.underlying74 ?_
  refine mks (⟨zarr, 0, zarr⟩ : Spare) 0 ((List.map plc l).length) rfl rfl rfl rfl (Nat.zero_le _) Try.underlying22 ty33.sz by33 zw33 (by simp; omega) rfl fun b11 => ⟨trivial, ?_⟩
  refine asg (.slice _ _ _) rfl ?_
  refine jt ?_
  refine c_seq ?_
  refine c_seq ?_
  refine c_reg ?_
  refine mv (.pointer _) rfl ?_
  refine nlc rfl ?_
  refine fad rfl Try.underlying76 rfl ty74.sz ?_
  refine ldp 1 2 _ rfl rfl rfl rfl ty74 ?_
  refine lenS rfl Try.underlying74 ?_
  refine mv (.int _ _) rfl ?_
  refine jt ?_
  refine c_block ?_
  refine c_loop (σ := Nat × Ow) (fun ⟨k, o2⟩ => k ≤ l.length ∧ o2.ok (l.take k)) (fun ⟨k, o2⟩ => l.length - k) (fun ⟨k, o2⟩ => [(17, .int .i64 (k : Int)), (3, .slice o2.adr (l.take k).length o2.cap)]) (fun ⟨k, o2⟩ => [o2.seg (l.take k) 33]) (fun ⟨k, o2⟩ => [[(bs, .cells (cat [p1 (.int .i64 most), p1 (.map (some m)), p1 (.slice o.adr (List.map plc l).length o.cap)]) 76)], [(m, .pred (isMap (List.map skv l)))], o.seg (List.map plc l) 72]) [3, 5, 17, 18, 19, 20, 21, 22, 23, 24, 25, 26, 27, 28, 29, 30, 31, 32, 33, 34, 35] (⟨0, ⟨false, b11, (List.map plc l).length, encs (List.replicate ((List.map plc l).length - 0) (⟨zarr, 0, zarr⟩ : Spare))⟩⟩) (⟨by omega, mks_ok _ _ _ _ (Nat.zero_le _)⟩) ⟨rfl, rfl, trivial⟩ rfl rfl ?_
  rintro ⟨k, o2⟩ g1 hI1
  try dsimp only at hI1 ⊢
  refine c_seq ?_
  refine c_reg ?_
  refine cmp _ rfl rfl rfl ?_
  refine jt ?_
  refine c_seq ?_
  refine c_cond rfl (fun h1 => ?_) (fun h1 => ?_)
  · replace h1 := of_decide_eq_true h1
    refine c_skip ?_
    refine e_then ?_
    refine c_seq ?_
    refine c_block ?_
    refine c_seq ?_
    refine c_reg ?_
    refine ixs ((o).vs) (List.map plc l) k (Ow.vs_ok ho) rfl rfl rfl Try.underlying74 ty72.sz rfl (by first | omega | (simp; done) | (simp; omega) | (simp at *; omega)) ?_
    refine ldso 3 _ ho rfl rfl rfl rfl (by first | omega | (simp; done) | (simp; omega) | (simp at *; omega)) ty72 ?_
    refine alo [pt (zarr : Key), p1 (.int .u32 0)] _ z72 rfl fun b5 => ⟨trivial, ?_⟩
    refine stw 1 _ [pt ((List.map plc l)[k].header), pt ((List.map plc l)[k].n)] rfl rfl rfl rfl ty72 ⟨trivial, ?_⟩
    refine jt ?_
    refine c_dr [_, _, _, _] [] [(0, 0), (1, 0), (2, 0), (3, 0), (4, 0), (5, 0), (6, 0), (7, 0), (8, 0), (9, 0), (10, 0), (11, 0), (12, 1), (13, 1), (14, 0)] follows (by kernel_rfl) calm_body (keepS [1, 2, 3, 4] rfl) ?_
    refine mv (.slice _ _ _) rfl ?_
    refine fad rfl Try.underlying72 rfl ty30.sz ?_
    refine ldp 0 0 _ rfl rfl rfl rfl ty30 ?_
    refine fad rfl Try.underlying72 rfl ty31.sz ?_
    refine ldp 0 1 _ rfl rfl rfl rfl ty31 ?_
    refine mv (.pointer _) rfl ?_
    refine nlc rfl ?_
    refine fad rfl Try.underlying76 rfl ty70.sz ?_
    refine ldp 1 1 _ rfl rfl rfl rfl ty70 ?_
    refine ldw 0 _ rfl rfl ty72 ?_
    refine lk1 2 (List.map skv l) ((List.map plc l)[k]) (zarr : Key) rfl rfl rfl Try.underlying70 key72 zv30 rfl ?_
    refine bld [pt (zarr : Key), p1 (.int .u32 0), pt (zarr : Key)] [(0, pt ((List.map plc l)[k].header)), (1, pt ((List.map plc l)[k].n)), (2, pt ((mget ((List.map plc l)[k]) (List.map skv l)).getD (zarr : Key)))] _ Try.underlying33 (lay33 _ Try.underlying33) z33 rfl rfl rfl ?_
    refine bsl (α := Spare) ([(⟨(List.map plc l)[k].header, (List.map plc l)[k].n, (mget (List.map plc l)[k] (List.map skv l)).getD zarr⟩ : Spare)]) Try.underlying22 ty33.sz rfl (by decide) z33 rfl fun b33 => ⟨keepI [1, 3, 4, 5] rfl, ?_⟩
    refine app 0 o2 (l.take k) ([(⟨(List.map plc l)[k].header, (List.map plc l)[k].n, (mget (List.map plc l)[k] (List.map skv l)).getD zarr⟩ : Spare)] : List Spare) hI1.2 rfl ⟨rfl, rfl, rfl⟩ rfl rfl (gives_own (ys := ([(⟨(List.map plc l)[k].header, (List.map plc l)[k].n, (mget (List.map plc l)[k] (List.map skv l)).getD zarr⟩ : Spare)] : List Spare)) (pre := []) (post := []) 2 rfl (by simp) rfl) Try.underlying22 Try.underlying22 (.inl ⟨_, rfl⟩) ty33.sz by33 z33 rfl (by simp; omega) rfl fun o34_1 hk34_1 => ⟨keepI [1, 3, 4, 5] rfl, ?_⟩
    refine asg (.slice _ _ _) rfl ?_
    refine jn ?_
    refine e_in ?_
    refine e_then ?_
    refine c_reg ?_
    refine addi rfl rfl rfl (by omega) ?_
    refine mv (.int _ _) rfl ?_
    refine jn ?_
    refine e_keep [0] [1, 2] [_] rfl (by kernel_rfl) ?_
    have hxs := list_next hnd (show k < l.length by simp at h1; omega)
    rw [← hxs] at hk34_1
    exact e_loop (⟨k + 1, o34_1⟩ : Nat × Ow) (⟨by simp at h1; omega, hk34_1⟩) (by simp at h1; (try dsimp only); omega) (by simp only [hxs]; exact ⟨rfl, rfl, trivial⟩) rfl (by simp only [hxs] <;> rfl) rfl
  · replace h1 := of_decide_eq_false h1
    refine c_exit rfl ?_
    refine e_then ?_
    refine c_seq ?_
    refine c_reg ?_
    refine mv (.slice _ _ _) rfl ?_
    refine asg (.slice _ _ _) rfl ?_
    refine jt ?_
    refine c_ret ?_
    exact j_end (own0 := []) (ro0 := [[(bs, .cells (cat [p1 (.int .i64 most), p1 (.map (some m)), p1 (.slice o.adr (List.map plc l).length o.cap)]) 76)], [(m, .pred (isMap (List.map skv l)))], o.seg (List.map plc l) 72]) (.inl rfl) rfl (hr1 Try.results14 (rvt (v := (.slice _ _ _)) rfl)) [0] [] [_] [] [] _ rfl rfl (by kernel_rfl) rfl impl_nil (⟨o2, by simpa [show l.take k = l from List.take_of_length_le (by simp at h1; omega)] using hI1.2, by rw [show l.take k = l from List.take_of_length_le (by simp at h1; omega)], by rw [show l.take k = l from List.take_of_length_le (by simp at h1; omega)], rfl⟩)
end Go.Proofs.Ytacfjmjcgolhfaa
