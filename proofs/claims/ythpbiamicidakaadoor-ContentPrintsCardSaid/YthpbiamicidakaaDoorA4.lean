/- Contracts of the program's functions, walked. No condition. -/
import Derived.Test.YthpbiamicidakaaDoorA3
namespace Go.Proofs.YthpbiamicidakaaDoor
open Go Go.Proofs Go.PW
open Go.PW.Enc (enc val)
theorem ty47 : Ty Tryd.prog 47 1 false := ⟨by kernel_rfl, by kernel_rfl⟩
theorem z71 : Zt Tryd.prog 71 (.agg ⟨cat [pt (0 : Int), pt ([] : Str), pt (0 : UInt64), pt (0 : UInt64), pt (0 : UInt64), pt (zarr : (Arr UInt8 32))]⟩) := by unfold Zt; kernel_rfl
theorem ty3 : Ty Tryd.prog 3 1 false := ⟨by kernel_rfl, by kernel_rfl⟩
theorem ty9 : Ty Tryd.prog 9 1 false := ⟨by kernel_rfl, by kernel_rfl⟩
theorem ty28 : Ty Tryd.prog 28 1 false := ⟨by kernel_rfl, by kernel_rfl⟩
theorem ty23 : Ty Tryd.prog 23 1 false := ⟨by kernel_rfl, by kernel_rfl⟩
theorem ty25 : Ty Tryd.prog 25 32 true := ⟨by kernel_rfl, by kernel_rfl⟩
theorem lay71 : ∀ fs, Tryd.prog.underlying 71 = some (.struct fs) → Lay Tryd.prog fs [(0, 1), (1, 1), (2, 1), (3, 1), (4, 1), (5, 32)] := fun fs h => by rw [Tryd.underlying71] at h; cases h; unfold Lay; kernel_rfl
theorem ty71 : Ty Tryd.prog 71 37 true := ⟨by kernel_rfl, by kernel_rfl⟩
def saidB (s : Str) (lo hi : Int) : Bool := (decide (lo ≤ (s.length : Int)) && decide ((s.length : Int) ≤ hi)) && u8ok s
def risesTo (l : List UInt32) (i : Nat) : Bool := (List.range i).all fun j => decide (j = 0) || decide ((l.getD (j - 1) 0).toNat < (l.getD j 0).toNat)
def risesB (l : List UInt32) : Bool := risesTo l l.length
theorem rises_on {l : List UInt32} {i : Nat} (h : risesTo l i = true) (h1 : 0 < i → (l.getD (i - 1) 0).toNat < (l.getD i 0).toNat) : risesTo l (i + 1) = true := by
  unfold risesTo at *
  rw [List.range_succ, List.all_append, h]
  simp only [List.all_cons, List.all_nil, Bool.and_true, Bool.true_and, Bool.or_eq_true, decide_eq_true_eq]
  omega
theorem rises_bad {l : List UInt32} {i : Nat} (h1 : i < l.length) (h0 : 0 < i) (h2 : (l.getD i 0).toNat ≤ (l.getD (i - 1) 0).toNat) : risesB l = false := by
  unfold risesB risesTo
  rw [Bool.eq_false_iff]
  intro h
  have := List.all_eq_true.1 h i (List.mem_range.2 h1)
  simp only [Bool.or_eq_true, decide_eq_true_eq] at this
  omega
theorem rises_all {l : List UInt32} {i : Nat} (h : risesTo l i = true) (hi : l.length ≤ i) : risesB l = true := by
  unfold risesB risesTo at *
  rw [List.all_eq_true] at *
  intro j hj
  exact h j (List.mem_range.2 (Nat.lt_of_lt_of_le (List.mem_range.1 hj) hi))

theorem odd_ct (x m : F64) : Ct Tryd.prog 14 [.float .f64 x.b.toNat, .float .f64 m.b.toNat] [] [] (fun v o r => v = .bool (oddB x m) ∧ o = [] ∧ r = []) := by
  refine ct_enter Tryd.func14 rfl Tryd.ntmps14 (by kernel_rfl) rfl fun w0 => ?_
  refine c_seq ?_
  refine c_reg ?_
  refine asg (.bool _) rfl ?_
  refine jt ?_
  refine c_seq ?_
  refine c_reg ?_
  refine mv (.float _ _) rfl ?_
  refine cal (IsNaN_ct x) [] [] [] rfl rfl rfl (by kernel_rfl) impl_nil rfl ?_; rintro _ _ _ ⟨rfl, rfl, rfl⟩; refine ⟨trivial, ?_⟩
  refine mv (.bool _) rfl ?_
  refine jsplit 7 rfl (fun h1 => ?_) (fun h1 => ?_)
  · refine g_off rfl rfl rfl rfl ?_
    refine g_off rfl rfl rfl rfl ?_
    refine g_off rfl rfl rfl rfl ?_
    refine g_off rfl rfl rfl rfl ?_
    refine pkt (.bool _) rfl rfl ?_
    refine mv (.bool _) rfl ?_
    refine g_off rfl rfl rfl rfl ?_
    refine g_off rfl rfl rfl rfl ?_
    refine g_off rfl rfl rfl rfl ?_
    refine g_und rfl rfl rfl ?_
    refine g_und rfl rfl rfl ?_
    refine g_off rfl rfl rfl rfl ?_
    refine pkt (.bool _) rfl rfl ?_
    refine asg (.bool _) rfl ?_
    refine jt ?_
    refine c_ret ?_
    exact j_end (own0 := []) (ro0 := []) (.inl rfl) rfl (hr1 Tryd.results14 (rvt (v := (.bool _)) rfl)) [] [] [] [] [] _ rfl rfl (by kernel_rfl) rfl impl_nil (⟨by simp [oddB, *], rfl, rfl⟩)
  · refine g_on rfl rfl rfl ?_
    refine mv (.float _ _) rfl ?_
    refine g_on rfl rfl rfl ?_
    refine cal (Abs_ct x) [] [] [] rfl rfl rfl (by kernel_rfl) impl_nil rfl ?_; rintro _ _ _ ⟨rfl, rfl, rfl⟩; refine ⟨trivial, ?_⟩
    refine g_on rfl rfl rfl ?_
    refine mv (.float _ _) rfl ?_
    refine g_on rfl rfl rfl ?_
    refine fcmp (fGt ((absF x).b.toNat) m.b.toNat) rfl rfl rfl ?_
    refine pkf (.bool _) rfl rfl ?_
    refine mv (.bool _) rfl ?_
    refine jsplit 13 rfl (fun h2 => ?_) (fun h2 => ?_)
    · refine g_off rfl rfl rfl rfl ?_
      refine g_off rfl rfl rfl rfl ?_
      refine g_off rfl rfl rfl rfl ?_
      refine g_und rfl rfl rfl ?_
      refine g_und rfl rfl rfl ?_
      refine g_off rfl rfl rfl rfl ?_
      refine pkt (.bool _) rfl rfl ?_
      refine asg (.bool _) rfl ?_
      refine jt ?_
      refine c_ret ?_
      exact j_end (own0 := []) (ro0 := []) (.inl rfl) rfl (hr1 Tryd.results14 (rvt (v := (.bool _)) rfl)) [] [] [] [] [] _ rfl rfl (by kernel_rfl) rfl impl_nil (⟨by simp [oddB, *], rfl, rfl⟩)
    · refine g_on rfl rfl rfl ?_
      refine mv (.float _ _) rfl ?_
      refine g_on rfl rfl rfl ?_
      refine fcmp (fEq x.b.toNat 0) rfl rfl rfl ?_
      refine g_on rfl rfl rfl ?_
      refine mv (.bool _) rfl ?_
      refine jsplit 16 rfl (fun h3 => ?_) (fun h3 => ?_)
      · refine g_on rfl rfl rfl ?_
        refine mv (.float _ _) rfl ?_
        refine g_on rfl rfl rfl ?_
        refine cal (Signbit_ct x) [] [] [] rfl rfl rfl (by kernel_rfl) impl_nil rfl ?_; rintro _ _ _ ⟨rfl, rfl, rfl⟩; refine ⟨trivial, ?_⟩
        refine g_on rfl rfl rfl ?_
        refine pkt (.bool _) rfl rfl ?_
        refine pkf (.bool _) rfl rfl ?_
        refine asg (.bool _) rfl ?_
        refine jt ?_
        refine c_ret ?_
        exact j_end (own0 := []) (ro0 := []) (.inl rfl) rfl (hr1 Tryd.results14 (rvt (v := (.bool _)) rfl)) [] [] [] [] [] _ rfl rfl (by kernel_rfl) rfl impl_nil (⟨by simp [oddB, *], rfl, rfl⟩)
      · refine g_off rfl rfl rfl rfl ?_
        refine g_off rfl rfl rfl rfl ?_
        refine g_on rfl rfl rfl ?_
        refine pkf (.bool _) rfl rfl ?_
        refine pkf (.bool _) rfl rfl ?_
        refine asg (.bool _) rfl ?_
        refine jt ?_
        refine c_ret ?_
        exact j_end (own0 := []) (ro0 := []) (.inl rfl) rfl (hr1 Tryd.results14 (rvt (v := (.bool _)) rfl)) [] [] [] [] [] _ rfl rfl (by kernel_rfl) rfl impl_nil (⟨by simp [oddB, *], rfl, rfl⟩)

theorem said_ct (s : Str) (lo hi : Int) : Ct Tryd.prog 44 [strV s, .int .i64 lo, .int .i64 hi] [] [tFirst 1, tAcc 2] (fun v o r => v = .bool (saidB s lo hi) ∧ o = [] ∧ r = []) := by
  refine ct_enter Tryd.func44 rfl Tryd.ntmps44 (by kernel_rfl) rfl fun w0 => ?_
  refine c_seq ?_
  refine c_reg ?_
  refine asg (.bool _) rfl ?_
  refine jt ?_
  refine c_seq ?_
  refine c_reg ?_
  refine mv (.string _) rfl ?_
  refine lenT (s := s) rfl Tryd.underlying9 ?_
  refine mv (.int _ _) rfl ?_
  refine cmp _ rfl rfl rfl ?_
  refine mv (.bool _) rfl ?_
  refine jsplit 11 rfl (fun h1 => ?_) (fun h1 => ?_)
  · replace h1 := of_decide_eq_true h1
    refine g_on rfl rfl rfl ?_
    refine mv (.string _) rfl ?_
    refine g_on rfl rfl rfl ?_
    refine lenT (s := s) rfl Tryd.underlying9 ?_
    refine g_on rfl rfl rfl ?_
    refine mv (.int _ _) rfl ?_
    refine g_on rfl rfl rfl ?_
    refine cmp _ rfl rfl rfl ?_
    refine pkt (.bool _) rfl rfl ?_
    refine mv (.bool _) rfl ?_
    refine jsplit 17 rfl (fun h2 => ?_) (fun h2 => ?_)
    · replace h2 := of_decide_eq_true h2
      refine g_on rfl rfl rfl ?_
      refine mv (.string _) rfl ?_
      refine g_on rfl rfl rfl ?_
      refine cal (ValidString_ct s) [] [] [] rfl rfl rfl (by kernel_rfl) (impl_cons (impl_at 0 rfl) (impl_cons (impl_at 1 rfl) impl_nil)) rfl ?_; rintro _ _ _ ⟨rfl, rfl, rfl⟩; refine ⟨trivial, ?_⟩
      refine pkt (.bool _) rfl rfl ?_
      refine asg (.bool _) rfl ?_
      refine jt ?_
      refine c_ret ?_
      exact j_end (own0 := []) (ro0 := [tFirst 1, tAcc 2]) (.inl rfl) rfl (hr1 Tryd.results44 (rvt (v := (.bool _)) rfl)) [] [] [] [] [] _ rfl rfl (by kernel_rfl) rfl impl_nil (⟨by simp [saidB, *], rfl, rfl⟩)
    · replace h2 := of_decide_eq_false h2
      refine g_off rfl rfl rfl rfl ?_
      refine g_off rfl rfl rfl rfl ?_
      refine pkf (.bool _) rfl rfl ?_
      refine asg (.bool _) rfl ?_
      refine jt ?_
      refine c_ret ?_
      exact j_end (own0 := []) (ro0 := [tFirst 1, tAcc 2]) (.inl rfl) rfl (hr1 Tryd.results44 (rvt (v := (.bool _)) rfl)) [] [] [] [] [] _ rfl rfl (by kernel_rfl) rfl impl_nil (⟨by simp [saidB, *], rfl, rfl⟩)
  · replace h1 := of_decide_eq_false h1
    refine g_off rfl rfl rfl rfl ?_
    refine g_off rfl rfl rfl rfl ?_
    refine g_off rfl rfl rfl rfl ?_
    refine g_off rfl rfl rfl rfl ?_
    refine pkf (.bool _) rfl rfl ?_
    refine mv (.bool _) rfl ?_
    refine g_off rfl rfl rfl rfl ?_
    refine g_off rfl rfl rfl rfl ?_
    refine pkf (.bool _) rfl rfl ?_
    refine asg (.bool _) rfl ?_
    refine jt ?_
    refine c_ret ?_
    exact j_end (own0 := []) (ro0 := [tFirst 1, tAcc 2]) (.inl rfl) rfl (hr1 Tryd.results44 (rvt (v := (.bool _)) rfl)) [] [] [] [] [] _ rfl rfl (by kernel_rfl) rfl impl_nil (⟨by simp [saidB, *], rfl, rfl⟩)

theorem rises_ct (sm : Vs) (ms : List UInt32) (hm : sm.ok ms) (hb : ms.length ≤ 4611686018427387904) : Ct Tryd.prog 45 [.slice sm.adr ms.length sm.cap] [] [sm.seg ms] (fun v o r => v = .bool (risesB ms) ∧ o = [] ∧ r = []) := by
  refine ct_enter Tryd.func45 rfl Tryd.ntmps45 (by kernel_rfl) rfl fun w0 => ?_
  refine c_seq ?_
  refine c_reg ?_
  refine asg (.bool _) rfl ?_
  refine jt ?_
  refine c_seq ?_
  refine c_seq ?_
  refine c_reg ?_
  refine mv (.slice _ _ _) rfl ?_
  refine lenS rfl Tryd.underlying22 ?_
  refine mv (.int _ _) rfl ?_
  refine jt ?_
  refine c_block ?_
  refine c_loop (σ := Nat) (fun i => i ≤ ms.length ∧ risesTo ms i = true) (fun i => ms.length - i) (fun i => [(6, .int .i64 (i : Int))]) (fun i => []) (fun i => [sm.seg ms]) [2, 3, 6, 7, 8, 9, 10, 11, 12, 13, 14, 15, 16, 17, 18, 19, 20, 21, 22, 23] 0 (⟨by omega, rfl⟩) ⟨rfl, trivial⟩ rfl rfl ?_
  rintro i g1 hI1
  try dsimp only at hI1 ⊢
  refine c_seq ?_
  refine c_reg ?_
  refine cmp _ rfl rfl rfl ?_
  refine jt ?_
  refine c_seq ?_
  refine c_cond rfl (fun h1 => ?_) (fun h1 => ?_)
  · replace h1 := of_decide_eq_true h1
    refine c_skip ?_
    refine e_then ?_
    refine c_seq ?_
    refine c_block ?_
    refine c_seq ?_
    refine c_reg ?_
    refine mv (.int _ _) rfl ?_
    refine asg (.int _ _) rfl ?_
    refine jt ?_
    refine c_seq ?_
    refine c_dr [_] [] [(0, 0), (1, 0), (2, 0), (3, 0), (4, 0), (5, 0), (6, 0), (7, 0), (8, 0), (9, 0), (10, 0), (11, 0), (12, 0), (13, 0)] follows (by kernel_rfl) calm_body (keepS [0] rfl) ?_
    refine mv (.int _ _) rfl ?_
    refine cmp _ rfl rfl rfl ?_
    refine mv (.bool _) rfl ?_
    refine jsplit 11 rfl (fun h2 => ?_) (fun h2 => ?_)
    · replace h2 := of_decide_eq_true h2
      refine g_on rfl rfl rfl ?_
      refine mv (.slice _ _ _) rfl ?_
      refine g_on rfl rfl rfl ?_
      refine mv (.int _ _) rfl ?_
      refine g_on rfl rfl rfl ?_
      refine ixs sm ms i hm rfl rfl rfl Tryd.underlying22 ty47.sz rfl (by first | omega | (simp; done) | (simp; omega) | (simp at *; omega)) ?_
      refine g_on rfl rfl rfl ?_
      refine ldvsG 0 (List.getD ms i 0) hm rfl rfl rfl rfl (getD_some (by first | omega | (simp; done) | (simp; omega) | (simp at *; omega))) ty47 ?_
      refine g_on rfl rfl rfl ?_
      refine mv (.slice _ _ _) rfl ?_
      refine g_on rfl rfl rfl ?_
      refine mv (.int _ _) rfl ?_
      refine g_on rfl rfl rfl ?_
      refine subi rfl rfl rfl (by omega) ?_
      refine g_on rfl rfl rfl ?_
      refine ixs sm ms (i - 1) hm rfl rfl rfl Tryd.underlying22 ty47.sz (by omega) (by omega) ?_
      refine g_on rfl rfl rfl ?_
      refine ldvsG 0 (List.getD ms (i - 1) 0) hm rfl rfl rfl rfl (getD_some (by first | omega | (simp; done) | (simp; omega) | (simp at *; omega))) ty47 ?_
      refine g_on rfl rfl rfl ?_
      refine cmp _ rfl rfl rfl ?_
      refine pkt (.bool _) rfl rfl ?_
      refine jt ?_
      refine c_cond rfl (fun h3 => ?_) (fun h3 => ?_)
      · replace h3 := of_decide_eq_true h3
        refine c_seq ?_
        refine c_reg ?_
        refine asg (.bool _) rfl ?_
        refine jt ?_
        refine c_ret ?_
        exact j_end (own0 := []) (ro0 := [sm.seg ms]) (.inl rfl) rfl (hr1 Tryd.results45 (rvt (v := (.bool _)) rfl)) [] [] [] [] [] _ rfl rfl (by kernel_rfl) rfl impl_nil (⟨by rw [rises_bad (i := i) (by omega) (by omega) (by omega)], rfl, rfl⟩)
      · replace h3 := of_decide_eq_false h3
        refine c_skip ?_
        refine e_in ?_
        refine e_then ?_
        refine c_reg ?_
        refine addi rfl rfl rfl (by omega) ?_
        refine mv (.int _ _) rfl ?_
        refine jn ?_
        exact e_loop (i + 1) (⟨by omega, rises_on hI1.2 (by omega)⟩) (by (try dsimp only); omega) (⟨rfl, trivial⟩) rfl rfl rfl
    · replace h2 := of_decide_eq_false h2
      refine g_off rfl rfl rfl rfl ?_
      refine g_off rfl rfl rfl rfl ?_
      refine g_off rfl rfl rfl rfl ?_
      refine g_off rfl rfl rfl rfl ?_
      refine g_off rfl rfl rfl rfl ?_
      refine g_off rfl rfl rfl rfl ?_
      refine g_off rfl rfl rfl rfl ?_
      refine g_off rfl rfl rfl rfl ?_
      refine g_off rfl rfl rfl rfl ?_
      refine g_off rfl rfl rfl rfl ?_
      refine pkf (.bool _) rfl rfl ?_
      refine jt ?_
      refine c_false rfl ?_
      refine c_skip ?_
      refine e_in ?_
      refine e_then ?_
      refine c_reg ?_
      refine addi rfl rfl rfl (by omega) ?_
      refine mv (.int _ _) rfl ?_
      refine jn ?_
      exact e_loop (i + 1) (⟨by omega, rises_on hI1.2 (by omega)⟩) (by (try dsimp only); omega) (⟨rfl, trivial⟩) rfl rfl rfl
  · replace h1 := of_decide_eq_false h1
    refine c_exit rfl ?_
    refine e_then ?_
    refine c_seq ?_
    refine c_reg ?_
    refine asg (.bool _) rfl ?_
    refine jt ?_
    refine c_ret ?_
    exact j_end (own0 := []) (ro0 := [sm.seg ms]) (.inl rfl) rfl (hr1 Tryd.results45 (rvt (v := (.bool _)) rfl)) [] [] [] [] [] _ rfl rfl (by kernel_rfl) rfl impl_nil (⟨by rw [show risesB ms = true from rises_all hI1.2 (by omega)], rfl, rfl⟩)

theorem bareOf_ct (c : Con) (a : Option Addr) (n k : Nat) : Ct Tryd.prog 46 [.agg ⟨cat [pt c.kind, pt c.text, p1 (.slice a n k), pt c.lat, pt c.long, pt c.number, pt c.key]⟩] [] [] (fun v o r => v = val c.bare ∧ o = [] ∧ r = []) := by
  refine ct_enter Tryd.func46 rfl Tryd.ntmps46 (by kernel_rfl) rfl fun w0 => ?_
  refine c_seq ?_
  refine c_reg ?_
  refine bxx [pt c.kind, pt c.text, p1 (.slice a n k), pt c.lat, pt c.long, pt c.number, pt c.key] _ rfl rfl fun b1 => ⟨trivial, ?_⟩
  refine alo [pt (0 : Int), pt ([] : Str), pt (0 : UInt64), pt (0 : UInt64), pt (0 : UInt64), pt (zarr : (Arr UInt8 32))] _ z71 rfl fun b2 => ⟨trivial, ?_⟩
  refine jt ?_
  refine c_seq ?_
  refine c_dr [_] [] [(0, 0), (1, 0), (2, 0), (3, 0), (4, 0), (5, 0), (7, 0), (8, 0), (10, 0), (11, 0), (12, 0), (13, 0), (6, 1), (9, 1), (14, 0), (15, 1)] follows (by kernel_rfl) calm_body (keepS [0] rfl) ?_
  refine fad rfl Tryd.underlying30 rfl ty3.sz ?_
  refine ldp 0 0 _ rfl rfl rfl rfl ty3 ?_
  refine fad rfl Tryd.underlying30 rfl ty9.sz ?_
  refine ldp 0 1 _ rfl rfl rfl rfl ty9 ?_
  refine fad rfl Tryd.underlying30 rfl ty28.sz ?_
  refine ldp 0 3 _ rfl rfl rfl rfl ty28 ?_
  refine fad rfl Tryd.underlying30 rfl ty28.sz ?_
  refine ldp 0 4 _ rfl rfl rfl rfl ty28 ?_
  refine fad rfl Tryd.underlying30 rfl ty23.sz ?_
  refine ldp 0 5 _ rfl rfl rfl rfl ty23 ?_
  refine fad rfl Tryd.underlying30 rfl ty25.sz ?_
  refine ldp 0 6 _ rfl rfl rfl rfl ty25 ?_
  refine xcal (args := [.float .f64 c.lat.b.toNat]) (.int .u64 (c.lat.b.toNat : Int)) Tryd.func27 (by kernel_rfl) (by kernel_rfl) (by kernel_rfl) (fun w => rfl) (by kernel_rfl) rfl ?_
  refine xcal (args := [.float .f64 c.long.b.toNat]) (.int .u64 (c.long.b.toNat : Int)) Tryd.func27 (by kernel_rfl) (by kernel_rfl) (by kernel_rfl) (fun w => rfl) (by kernel_rfl) rfl ?_
  refine bld [pt (0 : Int), pt ([] : Str), pt (0 : UInt64), pt (0 : UInt64), pt (0 : UInt64), pt (zarr : (Arr UInt8 32))] [(0, pt c.kind), (1, pt c.text), (2, pt c.lat.b), (3, pt c.long.b), (4, pt c.number), (5, pt c.key)] _ Tryd.underlying71 (lay71 _ Tryd.underlying71) z71 rfl rfl rfl ?_
  refine stw 1 _ [pt c.kind, pt c.text, pt c.lat.b, pt c.long.b, pt c.number, pt c.key] rfl rfl rfl rfl ty71 ⟨keepI [0] rfl, ?_⟩
  refine jt ?_
  refine c_ret ?_
  exact j_end (own0 := []) (ro0 := []) (.inl rfl) rfl (hr1 Tryd.results46 (rvc (p := pa [pt c.kind, pt c.text, pt c.lat.b, pt c.long.b, pt c.number, pt c.key]) 1 rfl rfl rfl ty71)) [] [0, 1] [] [_, _] [] _ rfl rfl (by kernel_rfl) rfl impl_nil (⟨rfl, rfl, rfl⟩)
end Go.Proofs.YthpbiamicidakaaDoor
