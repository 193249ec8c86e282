/- Contracts of the program's functions, walked. No condition. -/
import Derived.Test.YthpbiamicidakaaDoorA6
namespace Go.Proofs.YthpbiamicidakaaDoor
open Go Go.Proofs Go.PW
open Go.PW.Enc (enc val)
theorem z25 : Zt Tryd.prog 25 (.agg ⟨cat [pt (zarr : (Arr UInt8 32))]⟩) := by unfold Zt; kernel_rfl
def risingB (l : List UInt32) : Bool := risesB l && (decide (1 ≤ (l.length : Int)) && decide ((l.length : Int) ≤ 100))
def ownB (c : Con) (ms : List UInt32) : Bool :=
  if c.kind = 1 then saidB c.text 0 2000
  else if c.kind = 2 then (decide (c.number = 1) || decide (c.number = 2)) && risingB ms
  else if c.kind = 3 then saidB c.text 0 200
  else if c.kind = 4 then decide ((c.number.toNat : Int) ≤ 4294967295) && saidB c.text 1 64
  else if c.kind = 5 then decide ((c.number.toNat : Int) ≤ 31536000)
  else if c.kind = 6 then saidB c.text 1 255 && decide ((c.number.toNat : Int) ≤ 1099511627776)
  else false
def othersB (c : Con) (ms : List UInt32) : Bool :=
  if (c.kind = 2 ∨ c.kind = 5) ∧ c.text ≠ [] then false
  else if (c.kind ≠ 2 ∧ 0 < (ms.length : Int)) ∨ (c.kind ≠ 6 ∧ c.key ≠ zarr) then false
  else if (c.kind = 1 ∨ c.kind = 3) ∧ c.number ≠ 0 then false
  else decide (c.kind = 3) || (decide (c.lat.b = 0) && decide (c.long.b = 0))

theorem Float_ct (b m : UInt64) (hm : m.toNat < 9223372036854775808) : Ct Tryd.prog 47 [.int .u64 (b.toNat : Int), .int .u64 (m.toNat : Int)] [] [] (fun v o r => v = .int .i64 (floatV b m) ∧ o = [] ∧ r = []) := by
  refine ct_enter Tryd.func47 rfl Tryd.ntmps47 (by kernel_rfl) rfl fun w0 => ?_
  refine c_seq ?_
  refine c_reg ?_
  refine asg (.int _ _) rfl ?_
  refine jt ?_
  refine c_seq ?_
  refine c_reg ?_
  refine mv (.int _ _) rfl ?_
  refine remU64 (a := b) (b := (9223372036854775808 : UInt64)) rfl rfl (by decide) ?_
  refine asg (.int _ _) rfl ?_
  refine jt ?_
  refine c_seq ?_
  refine c_seq ?_
  refine c_reg ?_
  refine mv (.int _ _) rfl ?_
  refine cmp _ rfl rfl rfl ?_
  refine mv (.bool _) rfl ?_
  refine jsplit 10 rfl (fun h1 => ?_) (fun h1 => ?_)
  · replace h1 := of_decide_eq_true h1
    refine g_off rfl rfl rfl rfl ?_
    refine g_off rfl rfl rfl rfl ?_
    refine pkt (.bool _) rfl rfl ?_
    refine jt ?_
    refine c_true rfl ?_
    refine c_seq ?_
    refine c_reg ?_
    refine asg (.int _ _) rfl ?_
    refine jt ?_
    refine c_ret ?_
    exact j_end (own0 := []) (ro0 := []) (.inl rfl) rfl (hr1 Tryd.results47 (rvt (v := (.int _ _)) rfl)) [] [] [] [] [] _ rfl rfl (by kernel_rfl) rfl impl_nil (⟨(by unfold floatV; first | rw [if_pos (.inl (by omega))] | rw [if_pos (.inr (by assumption))] | rw [if_neg (fun h => h.elim (fun h => by omega) (by assumption)), if_pos (by omega)] | rw [if_neg (fun h => h.elim (fun h => by omega) (by assumption)), if_neg (by omega)]), rfl, rfl⟩)
  · replace h1 := of_decide_eq_false h1
    refine g_on rfl rfl rfl ?_
    refine mv (.int _ _) rfl ?_
    refine g_on rfl rfl rfl ?_
    refine equ64 (a := b) (b := (9223372036854775808 : UInt64)) _ rfl rfl rfl ?_
    refine pkf (.bool _) rfl rfl ?_
    refine jt ?_
    refine c_cond rfl (fun h2 => ?_) (fun h2 => ?_)
    · replace h2 := of_decide_eq_true h2
      refine c_seq ?_
      refine c_reg ?_
      refine asg (.int _ _) rfl ?_
      refine jt ?_
      refine c_ret ?_
      exact j_end (own0 := []) (ro0 := []) (.inl rfl) rfl (hr1 Tryd.results47 (rvt (v := (.int _ _)) rfl)) [] [] [] [] [] _ rfl rfl (by kernel_rfl) rfl impl_nil (⟨(by unfold floatV; first | rw [if_pos (.inl (by omega))] | rw [if_pos (.inr (by assumption))] | rw [if_neg (fun h => h.elim (fun h => by omega) (by assumption)), if_pos (by omega)] | rw [if_neg (fun h => h.elim (fun h => by omega) (by assumption)), if_neg (by omega)]), rfl, rfl⟩)
    · replace h2 := of_decide_eq_false h2
      refine c_skip ?_
      refine e_then ?_
      refine c_seq ?_
      refine c_seq ?_
      refine c_reg ?_
      refine mv (.int _ _) rfl ?_
      refine mv (.int _ _) rfl ?_
      refine cal (whole_ct m hm) [] [] [] rfl rfl rfl (by kernel_rfl) impl_nil rfl ?_; rintro _ _ _ ⟨rfl, rfl, rfl⟩; refine ⟨trivial, ?_⟩
      refine cmp _ rfl rfl rfl ?_
      refine jt ?_
      refine c_cond rfl (fun h3 => ?_) (fun h3 => ?_)
      · replace h3 := of_decide_eq_true h3
        refine c_seq ?_
        refine c_reg ?_
        refine asg (.int _ _) rfl ?_
        refine jt ?_
        refine c_ret ?_
        exact j_end (own0 := []) (ro0 := []) (.inl rfl) rfl (hr1 Tryd.results47 (rvt (v := (.int _ _)) rfl)) [] [] [] [] [] _ rfl rfl (by kernel_rfl) rfl impl_nil (⟨(by unfold floatV; first | rw [if_pos (.inl (by omega))] | rw [if_pos (.inr (by assumption))] | rw [if_neg (fun h => h.elim (fun h => by omega) (by assumption)), if_pos (by omega)] | rw [if_neg (fun h => h.elim (fun h => by omega) (by assumption)), if_neg (by omega)]), rfl, rfl⟩)
      · replace h3 := of_decide_eq_false h3
        refine c_skip ?_
        refine e_then ?_
        refine c_seq ?_
        refine c_reg ?_
        refine asg (.int _ _) rfl ?_
        refine jt ?_
        refine c_ret ?_
        exact j_end (own0 := []) (ro0 := []) (.inl rfl) rfl (hr1 Tryd.results47 (rvt (v := (.int _ _)) rfl)) [] [] [] [] [] _ rfl rfl (by kernel_rfl) rfl impl_nil (⟨(by unfold floatV; first | rw [if_pos (.inl (by omega))] | rw [if_pos (.inr (by assumption))] | rw [if_neg (fun h => h.elim (fun h => by omega) (by assumption)), if_pos (by omega)] | rw [if_neg (fun h => h.elim (fun h => by omega) (by assumption)), if_neg (by omega)]), rfl, rfl⟩)

theorem onEarth_ct (f : F64) (m : UInt64) (hm : m.toNat < 9223372036854775808) : Ct Tryd.prog 17 [.float .f64 f.b.toNat, .int .u64 (m.toNat : Int)] [] [] (fun v o r => v = .bool (decide (floatV f.b m = 0)) ∧ o = [] ∧ r = []) := by
  refine ct_enter Tryd.func17 rfl Tryd.ntmps17 (by kernel_rfl) rfl fun w0 => ?_
  refine c_seq ?_
  refine c_reg ?_
  refine asg (.bool _) rfl ?_
  refine jt ?_
  refine c_seq ?_
  refine c_reg ?_
  refine mv (.float _ _) rfl ?_
  refine xcal (args := [.float .f64 f.b.toNat]) (.int .u64 (f.b.toNat : Int)) Tryd.func27 (by kernel_rfl) (by kernel_rfl) (by kernel_rfl) (fun w => rfl) (by kernel_rfl) rfl ?_
  refine mv (.int _ _) rfl ?_
  refine cal (Float_ct f.b m hm) [] [] [] rfl rfl rfl (by kernel_rfl) impl_nil rfl ?_; rintro _ _ _ ⟨rfl, rfl, rfl⟩; refine ⟨trivial, ?_⟩
  refine cmp _ rfl rfl rfl ?_
  refine asg (.bool _) rfl ?_
  refine jt ?_
  refine c_ret ?_
  exact j_end (own0 := []) (ro0 := []) (.inl rfl) rfl (hr1 Tryd.results17 (rvt (v := (.bool _)) rfl)) [] [] [] [] [] _ rfl rfl (by kernel_rfl) rfl impl_nil (⟨rfl, rfl, rfl⟩)

theorem text_ct (s : Str) (lo hi : Int) (hh : hi ≤ 4611686018427387904) : Ct Tryd.prog 48 [strV s, .int .i64 lo, .int .i64 hi] [] [] (fun v o r => v = .bool (saidB s lo hi) ∧ o = [] ∧ r = []) := by
  refine ct_enter Tryd.func48 rfl Tryd.ntmps48 (by kernel_rfl) rfl fun w0 => ?_
  refine c_seq ?_
  refine c_reg ?_
  refine asg (.bool _) rfl ?_
  refine jt ?_
  refine c_seq ?_
  refine c_reg ?_
  refine mv (.string _) rfl ?_
  refine lenT (s := s) rfl Tryd.underlying9 ?_
  refine mv (.int _ _) rfl ?_
  refine cmp _ rfl rfl rfl ?_
  refine mv (.bool _) rfl ?_
  refine jsplit 11 rfl (fun h1 => ?_) (fun h1 => ?_)
  · replace h1 := of_decide_eq_true h1
    refine g_on rfl rfl rfl ?_
    refine mv (.string _) rfl ?_
    refine g_on rfl rfl rfl ?_
    refine lenT (s := s) rfl Tryd.underlying9 ?_
    refine g_on rfl rfl rfl ?_
    refine mv (.int _ _) rfl ?_
    refine g_on rfl rfl rfl ?_
    refine cmp _ rfl rfl rfl ?_
    refine pkt (.bool _) rfl rfl ?_
    refine mv (.bool _) rfl ?_
    refine jsplit 17 rfl (fun h2 => ?_) (fun h2 => ?_)
    · replace h2 := of_decide_eq_true h2
      refine g_on rfl rfl rfl ?_
      refine mv (.string _) rfl ?_
      refine g_on rfl rfl rfl ?_
      refine cvSB (s := s) rfl Tryd.underlying9 Tryd.underlying50 Tryd.underlying5 fun c19 hc19 => ⟨trivial, ?_⟩
      refine g_on rfl rfl rfl ?_
      refine cal (Text_ct ((c19).vs) s (Ow.vs_ok hc19) (by omega)) [] [0] [_] rfl rfl rfl (by kernel_rfl) (impl_cons (ow_impl 0 rfl) impl_nil) rfl ?_; rintro _ _ _ ⟨rfl, rfl, rfl⟩; refine ⟨trivial, ?_⟩
      refine pkt (.bool _) rfl rfl ?_
      refine asg (.bool _) rfl ?_
      refine jt ?_
      refine c_ret ?_
      exact j_end (own0 := []) (ro0 := []) (.inl rfl) rfl (hr1 Tryd.results48 (rvt (v := (.bool _)) rfl)) [] [0] [] [_] [] _ rfl rfl (by kernel_rfl) rfl impl_nil (⟨by simp [saidB, *], rfl, rfl⟩)
    · replace h2 := of_decide_eq_false h2
      refine g_off rfl rfl rfl rfl ?_
      refine g_off rfl rfl rfl rfl ?_
      refine g_off rfl rfl rfl rfl ?_
      refine pkf (.bool _) rfl rfl ?_
      refine asg (.bool _) rfl ?_
      refine jt ?_
      refine c_ret ?_
      exact j_end (own0 := []) (ro0 := []) (.inl rfl) rfl (hr1 Tryd.results48 (rvt (v := (.bool _)) rfl)) [] [] [] [] [] _ rfl rfl (by kernel_rfl) rfl impl_nil (⟨by simp [saidB, *], rfl, rfl⟩)
  · replace h1 := of_decide_eq_false h1
    refine g_off rfl rfl rfl rfl ?_
    refine g_off rfl rfl rfl rfl ?_
    refine g_off rfl rfl rfl rfl ?_
    refine g_off rfl rfl rfl rfl ?_
    refine pkf (.bool _) rfl rfl ?_
    refine mv (.bool _) rfl ?_
    refine g_off rfl rfl rfl rfl ?_
    refine g_off rfl rfl rfl rfl ?_
    refine g_off rfl rfl rfl rfl ?_
    refine pkf (.bool _) rfl rfl ?_
    refine asg (.bool _) rfl ?_
    refine jt ?_
    refine c_ret ?_
    exact j_end (own0 := []) (ro0 := []) (.inl rfl) rfl (hr1 Tryd.results48 (rvt (v := (.bool _)) rfl)) [] [] [] [] [] _ rfl rfl (by kernel_rfl) rfl impl_nil (⟨by simp [saidB, *], rfl, rfl⟩)

theorem rising_ct (sm : Vs) (ms : List UInt32) (hm : sm.ok ms) (hb : ms.length ≤ 4611686018427387904) : Ct Tryd.prog 49 [.slice sm.adr ms.length sm.cap] [] [sm.seg ms] (fun v o r => v = .bool (risingB ms) ∧ o = [] ∧ r = []) := by
  refine ct_enter Tryd.func49 rfl Tryd.ntmps49 (by kernel_rfl) rfl fun w0 => ?_
  refine c_seq ?_
  refine c_reg ?_
  refine asg (.bool _) rfl ?_
  refine jt ?_
  refine c_seq ?_
  refine c_seq ?_
  refine c_reg ?_
  refine asg (.int _ _) rfl ?_
  refine jt ?_
  refine c_block ?_
  refine c_loop (σ := Nat) (fun i => 1 ≤ i ∧ i ≤ ms.length + 1 ∧ risesTo ms i = true) (fun i => ms.length + 1 - i) (fun i => [(3, .int .i64 (i : Int))]) (fun i => []) (fun i => [sm.seg ms]) [2, 3, 4, 5, 6, 7, 8, 9, 10, 11, 12, 13, 14, 15, 16, 17, 18, 19] 1 (⟨by omega, by omega, rfl⟩) ⟨rfl, trivial⟩ rfl rfl ?_
  rintro i g1 hI1
  try dsimp only at hI1 ⊢
  refine c_seq ?_
  refine c_seq ?_
  refine c_reg ?_
  refine mv (.int _ _) rfl ?_
  refine mv (.slice _ _ _) rfl ?_
  refine lenS rfl Tryd.underlying22 ?_
  refine cmp _ rfl rfl rfl ?_
  refine jt ?_
  refine c_cond rfl (fun h1 => ?_) (fun h1 => ?_)
  · replace h1 := of_decide_eq_true h1
    refine c_skip ?_
    refine e_then ?_
    refine c_seq ?_
    refine c_block ?_
    refine c_seq ?_
    refine c_dr [_] [] [(0, 0), (1, 0), (2, 0), (3, 0), (4, 0), (5, 0), (6, 0), (7, 0), (8, 0), (9, 0)] follows (by kernel_rfl) calm_body (keepS [0] rfl) ?_
    refine mv (.slice _ _ _) rfl ?_
    refine mv (.int _ _) rfl ?_
    refine ixs sm ms i hm rfl rfl rfl Tryd.underlying22 ty47.sz rfl (by first | omega | (simp; done) | (simp; omega) | (simp at *; omega)) ?_
    refine ldvsG 0 (List.getD ms i 0) hm rfl rfl rfl rfl (getD_some (by first | omega | (simp; done) | (simp; omega) | (simp at *; omega))) ty47 ?_
    refine mv (.slice _ _ _) rfl ?_
    refine mv (.int _ _) rfl ?_
    refine subi rfl rfl rfl (by omega) ?_
    refine ixs sm ms (i - 1) hm rfl rfl rfl Tryd.underlying22 ty47.sz (by omega) (by omega) ?_
    refine ldvsG 0 (List.getD ms (i - 1) 0) hm rfl rfl rfl rfl (getD_some (by first | omega | (simp; done) | (simp; omega) | (simp at *; omega))) ty47 ?_
    refine cmp _ rfl rfl rfl ?_
    refine jt ?_
    refine c_cond rfl (fun h2 => ?_) (fun h2 => ?_)
    · replace h2 := of_decide_eq_true h2
      refine c_seq ?_
      refine c_reg ?_
      refine asg (.bool _) rfl ?_
      refine jt ?_
      refine c_ret ?_
      exact j_end (own0 := []) (ro0 := [sm.seg ms]) (.inl rfl) rfl (hr1 Tryd.results49 (rvt (v := (.bool _)) rfl)) [] [] [] [] [] _ rfl rfl (by kernel_rfl) rfl impl_nil (⟨(by first | (rw [risingB, rises_bad (i := i) (by omega) (by omega) (by omega)]; simp) | simp [risingB, rises_all hI1.2.2 (show ms.length ≤ i by omega), *]), rfl, rfl⟩)
    · replace h2 := of_decide_eq_false h2
      refine c_skip ?_
      refine e_in ?_
      refine e_then ?_
      refine c_reg ?_
      refine mv (.int _ _) rfl ?_
      refine addi rfl rfl rfl (by omega) ?_
      refine asg (.int _ _) rfl ?_
      refine jn ?_
      exact e_loop (i + 1) (⟨by omega, by omega, rises_on hI1.2.2 (by omega)⟩) (by (try dsimp only); omega) (⟨rfl, trivial⟩) rfl rfl rfl
  · replace h1 := of_decide_eq_false h1
    refine c_exit rfl ?_
    refine e_then ?_
    refine c_seq ?_
    refine c_reg ?_
    refine mv (.slice _ _ _) rfl ?_
    refine lenS rfl Tryd.underlying22 ?_
    refine cmp _ rfl rfl rfl ?_
    refine mv (.bool _) rfl ?_
    refine jsplit 23 rfl (fun h3 => ?_) (fun h3 => ?_)
    · replace h3 := of_decide_eq_true h3
      refine g_on rfl rfl rfl ?_
      refine mv (.slice _ _ _) rfl ?_
      refine g_on rfl rfl rfl ?_
      refine lenS rfl Tryd.underlying22 ?_
      refine g_on rfl rfl rfl ?_
      refine cmp _ rfl rfl rfl ?_
      refine pkt (.bool _) rfl rfl ?_
      refine asg (.bool _) rfl ?_
      refine jt ?_
      refine c_ret ?_
      exact j_end (own0 := []) (ro0 := [sm.seg ms]) (.inl rfl) rfl (hr1 Tryd.results49 (rvt (v := (.bool _)) rfl)) [] [] [] [] [] _ rfl rfl (by kernel_rfl) rfl impl_nil (⟨(by first | (rw [risingB, rises_bad (i := i) (by omega) (by omega) (by omega)]; simp) | simp [risingB, rises_all hI1.2.2 (show ms.length ≤ i by omega), *]), rfl, rfl⟩)
    · replace h3 := of_decide_eq_false h3
      refine g_off rfl rfl rfl rfl ?_
      refine g_off rfl rfl rfl rfl ?_
      refine g_off rfl rfl rfl rfl ?_
      refine pkf (.bool _) rfl rfl ?_
      refine asg (.bool _) rfl ?_
      refine jt ?_
      refine c_ret ?_
      exact j_end (own0 := []) (ro0 := [sm.seg ms]) (.inl rfl) rfl (hr1 Tryd.results49 (rvt (v := (.bool _)) rfl)) [] [] [] [] [] _ rfl rfl (by kernel_rfl) rfl impl_nil (⟨(by first | (rw [risingB, rises_bad (i := i) (by omega) (by omega) (by omega)]; simp) | simp [risingB, rises_all hI1.2.2 (show ms.length ≤ i by omega), *]), rfl, rfl⟩)

set_option maxRecDepth 20000 in
set_option maxHeartbeats 4000000 in
theorem own_ct (c : Con) (sm : Vs) (ms : List UInt32) (hm : sm.ok ms) (hb : ms.length ≤ 4611686018427387904) : Ct Tryd.prog 18 [.agg ⟨cat [pt c.kind, pt c.text, p1 (.slice sm.adr ms.length sm.cap), pt c.lat, pt c.long, pt c.number, pt c.key]⟩] [] [sm.seg ms] (fun v o r => v = .bool (ownB c ms) ∧ o = [] ∧ r = []) := by
  refine ct_enter Tryd.func18 rfl Tryd.ntmps18 (by kernel_rfl) rfl fun w0 => ?_
  refine c_seq ?_
  refine c_reg ?_
  refine bxx [pt c.kind, pt c.text, p1 (.slice sm.adr ms.length sm.cap), pt c.lat, pt c.long, pt c.number, pt c.key] _ rfl rfl fun b1 => ⟨trivial, ?_⟩
  refine asg (.bool _) rfl ?_
  refine jt ?_
  refine c_seq ?_
  refine c_seq ?_
  refine c_reg ?_
  refine fad rfl Tryd.underlying30 rfl ty3.sz ?_
  refine ldp 0 0 _ rfl rfl rfl rfl ty3 ?_
  refine jt ?_
  refine c_block ?_
  refine c_seq ?_
  refine c_reg ?_
  refine cmp _ rfl rfl rfl ?_
  refine asg (.bool _) rfl ?_
  refine jt ?_
  refine c_cond rfl (fun h1 => ?_) (fun h1 => ?_)
  · replace h1 := of_decide_eq_true h1
    refine c_seq ?_
    refine c_reg ?_
    refine fad rfl Tryd.underlying30 rfl ty9.sz ?_
    refine ldp 0 1 _ rfl rfl rfl rfl ty9 ?_
    refine cal (text_ct c.text (0 : Int) (2000 : Int) (by omega)) [] [0] [_] rfl rfl rfl (by kernel_rfl) impl_nil rfl ?_; rintro _ _ _ ⟨rfl, rfl, rfl⟩; refine ⟨trivial, ?_⟩
    refine asg (.bool _) rfl ?_
    refine jt ?_
    refine c_ret ?_
    exact j_end (own0 := []) (ro0 := [sm.seg ms]) (.inl rfl) rfl (hr1 Tryd.results18 (rvt (v := (.bool _)) rfl)) [] [0] [] [_] [] _ rfl rfl (by kernel_rfl) rfl impl_nil (⟨by simp [ownB, *], rfl, rfl⟩)
  · replace h1 := of_decide_eq_false h1
    refine c_seq ?_
    refine c_reg ?_
    refine cmp _ rfl rfl rfl ?_
    refine asg (.bool _) rfl ?_
    refine jt ?_
    refine c_cond rfl (fun h2 => ?_) (fun h2 => ?_)
    · replace h2 := of_decide_eq_true h2
      refine c_seq ?_
      refine c_reg ?_
      refine fad rfl Tryd.underlying30 rfl ty23.sz ?_
      refine ldp 0 5 _ rfl rfl rfl rfl ty23 ?_
      refine equ64 (a := c.number) (b := (1 : UInt64)) _ rfl rfl rfl ?_
      refine mv (.bool _) rfl ?_
      refine jsplit 15 rfl (fun h3 => ?_) (fun h3 => ?_)
      · replace h3 := of_decide_eq_true h3
        refine g_off rfl rfl rfl rfl ?_
        refine g_off rfl rfl rfl rfl ?_
        refine g_off rfl rfl rfl rfl ?_
        refine pkt (.bool _) rfl rfl ?_
        refine mv (.bool _) rfl ?_
        refine g_on rfl rfl rfl ?_
        refine fad rfl Tryd.underlying30 rfl ty22.sz ?_
        refine g_on rfl rfl rfl ?_
        refine ldp 0 2 _ rfl rfl rfl rfl ty22 ?_
        refine g_on rfl rfl rfl ?_
        refine cal (rising_ct sm ms hm hb) [] [0] [_] rfl rfl rfl (by kernel_rfl) (impl_cons (impl_at 0 rfl) impl_nil) rfl ?_; rintro _ _ _ ⟨rfl, rfl, rfl⟩; refine ⟨trivial, ?_⟩
        refine pkt (.bool _) rfl rfl ?_
        refine asg (.bool _) rfl ?_
        refine jt ?_
        refine c_ret ?_
        exact j_end (own0 := []) (ro0 := [sm.seg ms]) (.inl rfl) rfl (hr1 Tryd.results18 (rvt (v := (.bool _)) rfl)) [] [0] [] [_] [] _ rfl rfl (by kernel_rfl) rfl impl_nil (⟨by simp [ownB, *], rfl, rfl⟩)
      · replace h3 := of_decide_eq_false h3
        refine g_on rfl rfl rfl ?_
        refine fad rfl Tryd.underlying30 rfl ty23.sz ?_
        refine g_on rfl rfl rfl ?_
        refine ldp 0 5 _ rfl rfl rfl rfl ty23 ?_
        refine g_on rfl rfl rfl ?_
        refine equ64 (a := c.number) (b := (2 : UInt64)) _ rfl rfl rfl ?_
        refine pkf (.bool _) rfl rfl ?_
        refine mv (.bool _) rfl ?_
        refine jsplit 20 rfl (fun h4 => ?_) (fun h4 => ?_)
        · replace h4 := of_decide_eq_true h4
          refine g_on rfl rfl rfl ?_
          refine fad rfl Tryd.underlying30 rfl ty22.sz ?_
          refine g_on rfl rfl rfl ?_
          refine ldp 0 2 _ rfl rfl rfl rfl ty22 ?_
          refine g_on rfl rfl rfl ?_
          refine cal (rising_ct sm ms hm hb) [] [0] [_] rfl rfl rfl (by kernel_rfl) (impl_cons (impl_at 0 rfl) impl_nil) rfl ?_; rintro _ _ _ ⟨rfl, rfl, rfl⟩; refine ⟨trivial, ?_⟩
          refine pkt (.bool _) rfl rfl ?_
          refine asg (.bool _) rfl ?_
          refine jt ?_
          refine c_ret ?_
          exact j_end (own0 := []) (ro0 := [sm.seg ms]) (.inl rfl) rfl (hr1 Tryd.results18 (rvt (v := (.bool _)) rfl)) [] [0] [] [_] [] _ rfl rfl (by kernel_rfl) rfl impl_nil (⟨by simp [ownB, *], rfl, rfl⟩)
        · replace h4 := of_decide_eq_false h4
          refine g_off rfl rfl rfl rfl ?_
          refine g_off rfl rfl rfl rfl ?_
          refine g_off rfl rfl rfl rfl ?_
          refine pkf (.bool _) rfl rfl ?_
          refine asg (.bool _) rfl ?_
          refine jt ?_
          refine c_ret ?_
          exact j_end (own0 := []) (ro0 := [sm.seg ms]) (.inl rfl) rfl (hr1 Tryd.results18 (rvt (v := (.bool _)) rfl)) [] [0] [] [_] [] _ rfl rfl (by kernel_rfl) rfl impl_nil (⟨by simp [ownB, *], rfl, rfl⟩)
    · replace h2 := of_decide_eq_false h2
      refine c_seq ?_
      refine c_reg ?_
      refine cmp _ rfl rfl rfl ?_
      refine asg (.bool _) rfl ?_
      refine jt ?_
      refine c_cond rfl (fun h5 => ?_) (fun h5 => ?_)
      · replace h5 := of_decide_eq_true h5
        refine c_seq ?_
        refine c_reg ?_
        refine fad rfl Tryd.underlying30 rfl ty9.sz ?_
        refine ldp 0 1 _ rfl rfl rfl rfl ty9 ?_
        refine cal (text_ct c.text (0 : Int) (200 : Int) (by omega)) [] [0] [_] rfl rfl rfl (by kernel_rfl) impl_nil rfl ?_; rintro _ _ _ ⟨rfl, rfl, rfl⟩; refine ⟨trivial, ?_⟩
        refine asg (.bool _) rfl ?_
        refine jt ?_
        refine c_ret ?_
        exact j_end (own0 := []) (ro0 := [sm.seg ms]) (.inl rfl) rfl (hr1 Tryd.results18 (rvt (v := (.bool _)) rfl)) [] [0] [] [_] [] _ rfl rfl (by kernel_rfl) rfl impl_nil (⟨by simp [ownB, *], rfl, rfl⟩)
      · replace h5 := of_decide_eq_false h5
        refine c_seq ?_
        refine c_reg ?_
        refine cmp _ rfl rfl rfl ?_
        refine asg (.bool _) rfl ?_
        refine jt ?_
        refine c_cond rfl (fun h6 => ?_) (fun h6 => ?_)
        · replace h6 := of_decide_eq_true h6
          refine c_seq ?_
          refine c_reg ?_
          refine fad rfl Tryd.underlying30 rfl ty23.sz ?_
          refine ldp 0 5 _ rfl rfl rfl rfl ty23 ?_
          refine cmp _ rfl rfl rfl ?_
          refine mv (.bool _) rfl ?_
          refine jsplit 35 rfl (fun h7 => ?_) (fun h7 => ?_)
          · replace h7 := of_decide_eq_true h7
            refine g_on rfl rfl rfl ?_
            refine fad rfl Tryd.underlying30 rfl ty9.sz ?_
            refine g_on rfl rfl rfl ?_
            refine ldp 0 1 _ rfl rfl rfl rfl ty9 ?_
            refine g_on rfl rfl rfl ?_
            refine cal (text_ct c.text (1 : Int) (64 : Int) (by omega)) [] [0] [_] rfl rfl rfl (by kernel_rfl) impl_nil rfl ?_; rintro _ _ _ ⟨rfl, rfl, rfl⟩; refine ⟨trivial, ?_⟩
            refine pkt (.bool _) rfl rfl ?_
            refine asg (.bool _) rfl ?_
            refine jt ?_
            refine c_ret ?_
            exact j_end (own0 := []) (ro0 := [sm.seg ms]) (.inl rfl) rfl (hr1 Tryd.results18 (rvt (v := (.bool _)) rfl)) [] [0] [] [_] [] _ rfl rfl (by kernel_rfl) rfl impl_nil (⟨by simp [ownB, *], rfl, rfl⟩)
          · replace h7 := of_decide_eq_false h7
            refine g_off rfl rfl rfl rfl ?_
            refine g_off rfl rfl rfl rfl ?_
            refine g_off rfl rfl rfl rfl ?_
            refine pkf (.bool _) rfl rfl ?_
            refine asg (.bool _) rfl ?_
            refine jt ?_
            refine c_ret ?_
            exact j_end (own0 := []) (ro0 := [sm.seg ms]) (.inl rfl) rfl (hr1 Tryd.results18 (rvt (v := (.bool _)) rfl)) [] [0] [] [_] [] _ rfl rfl (by kernel_rfl) rfl impl_nil (⟨by simp [ownB, *], rfl, rfl⟩)
        · replace h6 := of_decide_eq_false h6
          refine c_seq ?_
          refine c_reg ?_
          refine cmp _ rfl rfl rfl ?_
          refine asg (.bool _) rfl ?_
          refine jt ?_
          refine c_cond rfl (fun h8 => ?_) (fun h8 => ?_)
          · replace h8 := of_decide_eq_true h8
            refine c_seq ?_
            refine c_reg ?_
            refine fad rfl Tryd.underlying30 rfl ty23.sz ?_
            refine ldp 0 5 _ rfl rfl rfl rfl ty23 ?_
            refine cmp _ rfl rfl rfl ?_
            refine asg (.bool _) rfl ?_
            refine jt ?_
            refine c_ret ?_
            exact j_end (own0 := []) (ro0 := [sm.seg ms]) (.inl rfl) rfl (hr1 Tryd.results18 (rvt (v := (.bool _)) rfl)) [] [0] [] [_] [] _ rfl rfl (by kernel_rfl) rfl impl_nil (⟨by simp [ownB, *], rfl, rfl⟩)
          · replace h8 := of_decide_eq_false h8
            refine c_seq ?_
            refine c_reg ?_
            refine cmp _ rfl rfl rfl ?_
            refine asg (.bool _) rfl ?_
            refine jt ?_
            refine c_cond rfl (fun h9 => ?_) (fun h9 => ?_)
            · replace h9 := of_decide_eq_true h9
              refine c_seq ?_
              refine c_reg ?_
              refine fad rfl Tryd.underlying30 rfl ty9.sz ?_
              refine ldp 0 1 _ rfl rfl rfl rfl ty9 ?_
              refine cal (text_ct c.text (1 : Int) (255 : Int) (by omega)) [] [0] [_] rfl rfl rfl (by kernel_rfl) impl_nil rfl ?_; rintro _ _ _ ⟨rfl, rfl, rfl⟩; refine ⟨trivial, ?_⟩
              refine mv (.bool _) rfl ?_
              refine jsplit 50 rfl (fun h10 => ?_) (fun h10 => ?_)
              · refine g_on rfl rfl rfl ?_
                refine fad rfl Tryd.underlying30 rfl ty23.sz ?_
                refine g_on rfl rfl rfl ?_
                refine ldp 0 5 _ rfl rfl rfl rfl ty23 ?_
                refine g_on rfl rfl rfl ?_
                refine cmp _ rfl rfl rfl ?_
                refine pkt (.bool _) rfl rfl ?_
                refine asg (.bool _) rfl ?_
                refine jt ?_
                refine c_ret ?_
                exact j_end (own0 := []) (ro0 := [sm.seg ms]) (.inl rfl) rfl (hr1 Tryd.results18 (rvt (v := (.bool _)) rfl)) [] [0] [] [_] [] _ rfl rfl (by kernel_rfl) rfl impl_nil (⟨by simp [ownB, *], rfl, rfl⟩)
              · refine g_off rfl rfl rfl rfl ?_
                refine g_off rfl rfl rfl rfl ?_
                refine g_off rfl rfl rfl rfl ?_
                refine pkf (.bool _) rfl rfl ?_
                refine asg (.bool _) rfl ?_
                refine jt ?_
                refine c_ret ?_
                exact j_end (own0 := []) (ro0 := [sm.seg ms]) (.inl rfl) rfl (hr1 Tryd.results18 (rvt (v := (.bool _)) rfl)) [] [0] [] [_] [] _ rfl rfl (by kernel_rfl) rfl impl_nil (⟨by simp [ownB, *], rfl, rfl⟩)
            · replace h9 := of_decide_eq_false h9
              refine c_skip ?_
              refine e_in ?_
              refine e_then ?_
              refine c_seq ?_
              refine c_reg ?_
              refine asg (.bool _) rfl ?_
              refine jt ?_
              refine c_ret ?_
              exact j_end (own0 := []) (ro0 := [sm.seg ms]) (.inl rfl) rfl (hr1 Tryd.results18 (rvt (v := (.bool _)) rfl)) [] [0] [] [_] [] _ rfl rfl (by kernel_rfl) rfl impl_nil (⟨by simp [ownB, *], rfl, rfl⟩)

set_option maxRecDepth 20000 in
set_option maxHeartbeats 4000000 in
theorem others_ct (c : Con) (sm : Vs) (ms : List UInt32) (hm : sm.ok ms) (hb : ms.length ≤ 4611686018427387904) : Ct Tryd.prog 19 [.agg ⟨cat [pt c.kind, pt c.text, p1 (.slice sm.adr ms.length sm.cap), pt c.lat, pt c.long, pt c.number, pt c.key]⟩] [] [sm.seg ms] (fun v o r => v = .bool (othersB c ms) ∧ o = [] ∧ r = []) := by
  refine ct_enter Tryd.func19 rfl Tryd.ntmps19 (by kernel_rfl) rfl fun w0 => ?_
  refine c_seq ?_
  refine c_reg ?_
  refine bxx [pt c.kind, pt c.text, p1 (.slice sm.adr ms.length sm.cap), pt c.lat, pt c.long, pt c.number, pt c.key] _ rfl rfl fun b1 => ⟨trivial, ?_⟩
  refine asg (.bool _) rfl ?_
  refine jt ?_
  refine c_cut (σ := Unit) (fun _u => ¬((c.kind = 2 ∨ c.kind = 5) ∧ c.text ≠ [])) (fun _u => []) (fun _u => [[(b1, .cells (cat [pt c.kind, pt c.text, p1 (.slice sm.adr ms.length sm.cap), pt c.lat, pt c.long, pt c.number, pt c.key]) 30)]]) (fun _u => [sm.seg ms]) [2, 3, 4, 5, 6, 7, 8, 9, 10, 11, 12, 13] ?_ ?_
  · refine c_seq ?_
    refine c_reg ?_
    refine fad rfl Tryd.underlying30 rfl ty3.sz ?_
    refine ldp 0 0 _ rfl rfl rfl rfl ty3 ?_
    refine cmp _ rfl rfl rfl ?_
    refine mv (.bool _) rfl ?_
    refine jsplit 6 rfl (fun h1 => ?_) (fun h1 => ?_)
    · replace h1 := of_decide_eq_true h1
      refine g_off rfl rfl rfl rfl ?_
      refine g_off rfl rfl rfl rfl ?_
      refine g_off rfl rfl rfl rfl ?_
      refine pkt (.bool _) rfl rfl ?_
      refine jt ?_
      refine c_true rfl ?_
      refine c_seq ?_
      refine c_reg ?_
      refine fad rfl Tryd.underlying30 rfl ty9.sz ?_
      refine ldp 0 1 _ rfl rfl rfl rfl ty9 ?_
      refine scmp (a := c.text) (b := ([] : Str)) _ rfl rfl Tryd.underlying9 rfl ?_
      refine jt ?_
      refine c_cond rfl (fun h2 => ?_) (fun h2 => ?_)
      · replace h2 := ndt h2
        refine c_seq ?_
        refine c_reg ?_
        refine asg (.bool _) rfl ?_
        refine jt ?_
        refine c_ret ?_
        exact j_end (own0 := []) (ro0 := [sm.seg ms]) (.inl rfl) rfl (hr1 Tryd.results19 (rvt (v := (.bool _)) rfl)) [] [0] [] [_] [] _ rfl rfl (by kernel_rfl) rfl impl_nil (⟨(by first | (rw [othersB, if_neg hA, if_neg hB, if_neg hC]; simp [*]; done) | (exfalso; omega) | simp_all [othersB]), rfl, rfl⟩)
      · replace h2 := ndf h2
        refine c_skip ?_
        exact e_lp () (by repeat (first | exact out_self | refine out_hav (by kernel_rfl) ?_ | refine out_look (by kernel_rfl) ?_)) (by first | (exfalso; omega) | simp_all) trivial trivial rfl rfl rfl
    · replace h1 := of_decide_eq_false h1
      refine g_on rfl rfl rfl ?_
      refine fad rfl Tryd.underlying30 rfl ty3.sz ?_
      refine g_on rfl rfl rfl ?_
      refine ldp 0 0 _ rfl rfl rfl rfl ty3 ?_
      refine g_on rfl rfl rfl ?_
      refine cmp _ rfl rfl rfl ?_
      refine pkf (.bool _) rfl rfl ?_
      refine jt ?_
      refine c_cond rfl (fun h3 => ?_) (fun h3 => ?_)
      · replace h3 := of_decide_eq_true h3
        refine c_seq ?_
        refine c_reg ?_
        refine fad rfl Tryd.underlying30 rfl ty9.sz ?_
        refine ldp 0 1 _ rfl rfl rfl rfl ty9 ?_
        refine scmp (a := c.text) (b := ([] : Str)) _ rfl rfl Tryd.underlying9 rfl ?_
        refine jt ?_
        refine c_cond rfl (fun h4 => ?_) (fun h4 => ?_)
        · replace h4 := ndt h4
          refine c_seq ?_
          refine c_reg ?_
          refine asg (.bool _) rfl ?_
          refine jt ?_
          refine c_ret ?_
          exact j_end (own0 := []) (ro0 := [sm.seg ms]) (.inl rfl) rfl (hr1 Tryd.results19 (rvt (v := (.bool _)) rfl)) [] [0] [] [_] [] _ rfl rfl (by kernel_rfl) rfl impl_nil (⟨(by first | (rw [othersB, if_neg hA, if_neg hB, if_neg hC]; simp [*]; done) | (exfalso; omega) | simp_all [othersB]), rfl, rfl⟩)
        · replace h4 := ndf h4
          refine c_skip ?_
          exact e_lp () (by repeat (first | exact out_self | refine out_hav (by kernel_rfl) ?_ | refine out_look (by kernel_rfl) ?_)) (by first | (exfalso; omega) | simp_all) trivial trivial rfl rfl rfl
      · replace h3 := of_decide_eq_false h3
        refine c_skip ?_
        exact e_lp () (by repeat (first | exact out_self | refine out_hav (by kernel_rfl) ?_ | refine out_look (by kernel_rfl) ?_)) (by first | (exfalso; omega) | simp_all) trivial trivial rfl rfl rfl
  · rintro _u g hA
    try dsimp only at hA ⊢
    refine c_cut (σ := Unit) (fun _u => ¬((c.kind ≠ 2 ∧ 0 < (ms.length : Int)) ∨ (c.kind ≠ 6 ∧ c.key ≠ zarr))) (fun _u => []) (fun _u => [[(b1, .cells (cat [pt c.kind, pt c.text, p1 (.slice sm.adr ms.length sm.cap), pt c.lat, pt c.long, pt c.number, pt c.key]) 30)]]) (fun _u => [sm.seg ms]) [2, 14, 15, 16, 17, 18, 19, 20, 21, 22, 23, 24, 25, 26, 27, 28, 29, 30, 31, 32, 33] ?_ ?_
    · refine c_seq ?_
      refine c_reg ?_
      refine fad rfl Tryd.underlying30 rfl ty3.sz ?_
      refine ldp 0 0 _ rfl rfl rfl rfl ty3 ?_
      refine cmp _ rfl rfl rfl ?_
      refine mv (.bool _) rfl ?_
      refine jsplit 17 rfl (fun h5 => ?_) (fun h5 => ?_)
      · replace h5 := ndt h5
        refine g_on rfl rfl rfl ?_
        refine fad rfl Tryd.underlying30 rfl ty22.sz ?_
        refine g_on rfl rfl rfl ?_
        refine ldp 0 2 _ rfl rfl rfl rfl ty22 ?_
        refine g_on rfl rfl rfl ?_
        refine lenS rfl Tryd.underlying22 ?_
        refine g_on rfl rfl rfl ?_
        refine cmp _ rfl rfl rfl ?_
        refine pkt (.bool _) rfl rfl ?_
        refine mv (.bool _) rfl ?_
        refine jsplit 23 rfl (fun h6 => ?_) (fun h6 => ?_)
        · replace h6 := of_decide_eq_true h6
          refine g_off rfl rfl rfl rfl ?_
          refine g_off rfl rfl rfl rfl ?_
          refine g_off rfl rfl rfl rfl ?_
          refine g_off rfl rfl rfl rfl ?_
          refine g_und rfl rfl rfl ?_
          refine g_und rfl rfl rfl ?_
          refine g_und rfl rfl rfl ?_
          refine g_und rfl rfl rfl ?_
          refine g_off rfl rfl rfl rfl ?_
          refine pkt (.bool _) rfl rfl ?_
          refine jt ?_
          refine c_true rfl ?_
          refine c_seq ?_
          refine c_reg ?_
          refine asg (.bool _) rfl ?_
          refine jt ?_
          refine c_ret ?_
          exact j_end (own0 := []) (ro0 := [sm.seg ms]) (.inl rfl) rfl (hr1 Tryd.results19 (rvt (v := (.bool _)) rfl)) [] [0] [] [_] [] _ rfl rfl (by kernel_rfl) rfl impl_nil (⟨(by first | (rw [othersB, if_neg hA, if_neg hB, if_neg hC]; simp [*]; done) | (exfalso; omega) | simp_all [othersB]), rfl, rfl⟩)
        · replace h6 := of_decide_eq_false h6
          refine g_on rfl rfl rfl ?_
          refine fad rfl Tryd.underlying30 rfl ty3.sz ?_
          refine g_on rfl rfl rfl ?_
          refine ldp 0 0 _ rfl rfl rfl rfl ty3 ?_
          refine g_on rfl rfl rfl ?_
          refine cmp _ rfl rfl rfl ?_
          refine g_on rfl rfl rfl ?_
          refine mv (.bool _) rfl ?_
          refine jsplit 27 rfl (fun h7 => ?_) (fun h7 => ?_)
          · replace h7 := ndt h7
            refine g_on rfl rfl rfl ?_
            refine fad rfl Tryd.underlying30 rfl ty25.sz ?_
            refine g_on rfl rfl rfl ?_
            refine ldp 0 6 _ rfl rfl rfl rfl ty25 ?_
            refine g_on rfl rfl rfl ?_
            refine bldA (α := UInt8) ((zarr : (Arr UInt8 32)).l) [] Tryd.underlying25 ty5.sz z25 rfl rfl rfl ?_
            refine g_on rfl rfl rfl ?_
            refine eqA c.key (zarr : (Arr UInt8 32)) _ rfl rfl rfl rfl eq25 rfl Tryd.eqGuardType25 rfl ?_
            refine g_on rfl rfl rfl ?_
            refine pkt (.bool _) rfl rfl ?_
            refine pkf (.bool _) rfl rfl ?_
            refine jt ?_
            refine c_cond rfl (fun h8 => ?_) (fun h8 => ?_)
            · replace h8 := ndt h8
              refine c_seq ?_
              refine c_reg ?_
              refine asg (.bool _) rfl ?_
              refine jt ?_
              refine c_ret ?_
              exact j_end (own0 := []) (ro0 := [sm.seg ms]) (.inl rfl) rfl (hr1 Tryd.results19 (rvt (v := (.bool _)) rfl)) [] [0] [] [_] [] _ rfl rfl (by kernel_rfl) rfl impl_nil (⟨(by first | (rw [othersB, if_neg hA, if_neg hB, if_neg hC]; simp [*]; done) | (exfalso; omega) | simp_all [othersB]), rfl, rfl⟩)
            · replace h8 := ndf h8
              refine c_skip ?_
              exact e_lp () (by repeat (first | exact out_self | refine out_hav (by kernel_rfl) ?_ | refine out_look (by kernel_rfl) ?_)) (by first | (exfalso; omega) | simp_all) trivial trivial rfl rfl rfl
          · replace h7 := ndf h7
            refine g_off rfl rfl rfl rfl ?_
            refine g_off rfl rfl rfl rfl ?_
            refine g_off rfl rfl rfl rfl ?_
            refine g_off rfl rfl rfl rfl ?_
            refine g_on rfl rfl rfl ?_
            refine pkf (.bool _) rfl rfl ?_
            refine pkf (.bool _) rfl rfl ?_
            refine jt ?_
            refine c_false rfl ?_
            refine c_skip ?_
            exact e_lp () (by repeat (first | exact out_self | refine out_hav (by kernel_rfl) ?_ | refine out_look (by kernel_rfl) ?_)) (by first | (exfalso; omega) | simp_all) trivial trivial rfl rfl rfl
      · replace h5 := ndf h5
        refine g_off rfl rfl rfl rfl ?_
        refine g_off rfl rfl rfl rfl ?_
        refine g_off rfl rfl rfl rfl ?_
        refine g_off rfl rfl rfl rfl ?_
        refine pkf (.bool _) rfl rfl ?_
        refine mv (.bool _) rfl ?_
        refine g_on rfl rfl rfl ?_
        refine fad rfl Tryd.underlying30 rfl ty3.sz ?_
        refine g_on rfl rfl rfl ?_
        refine ldp 0 0 _ rfl rfl rfl rfl ty3 ?_
        refine g_on rfl rfl rfl ?_
        refine cmp _ rfl rfl rfl ?_
        refine g_on rfl rfl rfl ?_
        refine mv (.bool _) rfl ?_
        refine jsplit 27 rfl (fun h9 => ?_) (fun h9 => ?_)
        · replace h9 := ndt h9
          refine g_on rfl rfl rfl ?_
          refine fad rfl Tryd.underlying30 rfl ty25.sz ?_
          refine g_on rfl rfl rfl ?_
          refine ldp 0 6 _ rfl rfl rfl rfl ty25 ?_
          refine g_on rfl rfl rfl ?_
          refine bldA (α := UInt8) ((zarr : (Arr UInt8 32)).l) [] Tryd.underlying25 ty5.sz z25 rfl rfl rfl ?_
          refine g_on rfl rfl rfl ?_
          refine eqA c.key (zarr : (Arr UInt8 32)) _ rfl rfl rfl rfl eq25 rfl Tryd.eqGuardType25 rfl ?_
          refine g_on rfl rfl rfl ?_
          refine pkt (.bool _) rfl rfl ?_
          refine pkf (.bool _) rfl rfl ?_
          refine jt ?_
          refine c_cond rfl (fun h10 => ?_) (fun h10 => ?_)
          · replace h10 := ndt h10
            refine c_seq ?_
            refine c_reg ?_
            refine asg (.bool _) rfl ?_
            refine jt ?_
            refine c_ret ?_
            exact j_end (own0 := []) (ro0 := [sm.seg ms]) (.inl rfl) rfl (hr1 Tryd.results19 (rvt (v := (.bool _)) rfl)) [] [0] [] [_] [] _ rfl rfl (by kernel_rfl) rfl impl_nil (⟨(by first | (rw [othersB, if_neg hA, if_neg hB, if_neg hC]; simp [*]; done) | (exfalso; omega) | simp_all [othersB]), rfl, rfl⟩)
          · replace h10 := ndf h10
            refine c_skip ?_
            exact e_lp () (by repeat (first | exact out_self | refine out_hav (by kernel_rfl) ?_ | refine out_look (by kernel_rfl) ?_)) (by first | (exfalso; omega) | simp_all) trivial trivial rfl rfl rfl
        · replace h9 := ndf h9
          refine g_off rfl rfl rfl rfl ?_
          refine g_off rfl rfl rfl rfl ?_
          refine g_off rfl rfl rfl rfl ?_
          refine g_off rfl rfl rfl rfl ?_
          refine g_on rfl rfl rfl ?_
          refine pkf (.bool _) rfl rfl ?_
          refine pkf (.bool _) rfl rfl ?_
          refine jt ?_
          refine c_false rfl ?_
          refine c_skip ?_
          exact e_lp () (by repeat (first | exact out_self | refine out_hav (by kernel_rfl) ?_ | refine out_look (by kernel_rfl) ?_)) (by first | (exfalso; omega) | simp_all) trivial trivial rfl rfl rfl
    · rintro _u g hB
      try dsimp only at hB ⊢
      refine c_cut (σ := Unit) (fun _u => ¬((c.kind = 1 ∨ c.kind = 3) ∧ c.number ≠ 0)) (fun _u => []) (fun _u => [[(b1, .cells (cat [pt c.kind, pt c.text, p1 (.slice sm.adr ms.length sm.cap), pt c.lat, pt c.long, pt c.number, pt c.key]) 30)]]) (fun _u => [sm.seg ms]) [2, 34, 35, 36, 37, 38, 39, 40, 41, 42, 43, 44, 45, 46] ?_ ?_
      · refine c_seq ?_
        refine c_reg ?_
        refine fad rfl Tryd.underlying30 rfl ty3.sz ?_
        refine ldp 0 0 _ rfl rfl rfl rfl ty3 ?_
        refine cmp _ rfl rfl rfl ?_
        refine mv (.bool _) rfl ?_
        refine jsplit 37 rfl (fun h11 => ?_) (fun h11 => ?_)
        · replace h11 := of_decide_eq_true h11
          refine g_off rfl rfl rfl rfl ?_
          refine g_off rfl rfl rfl rfl ?_
          refine g_off rfl rfl rfl rfl ?_
          refine pkt (.bool _) rfl rfl ?_
          refine mv (.bool _) rfl ?_
          refine g_on rfl rfl rfl ?_
          refine fad rfl Tryd.underlying30 rfl ty23.sz ?_
          refine g_on rfl rfl rfl ?_
          refine ldp 0 5 _ rfl rfl rfl rfl ty23 ?_
          refine g_on rfl rfl rfl ?_
          refine equ64 (a := c.number) (b := (0 : UInt64)) _ rfl rfl rfl ?_
          refine pkt (.bool _) rfl rfl ?_
          refine jt ?_
          refine c_cond rfl (fun h12 => ?_) (fun h12 => ?_)
          · replace h12 := ndt h12
            refine c_seq ?_
            refine c_reg ?_
            refine asg (.bool _) rfl ?_
            refine jt ?_
            refine c_ret ?_
            exact j_end (own0 := []) (ro0 := [sm.seg ms]) (.inl rfl) rfl (hr1 Tryd.results19 (rvt (v := (.bool _)) rfl)) [] [0] [] [_] [] _ rfl rfl (by kernel_rfl) rfl impl_nil (⟨(by first | (rw [othersB, if_neg hA, if_neg hB, if_neg hC]; simp [*]; done) | (exfalso; omega) | simp_all [othersB]), rfl, rfl⟩)
          · replace h12 := ndf h12
            refine c_skip ?_
            exact e_lp () (by repeat (first | exact out_self | refine out_hav (by kernel_rfl) ?_ | refine out_look (by kernel_rfl) ?_)) (by first | (exfalso; omega) | simp_all) trivial trivial rfl rfl rfl
        · replace h11 := of_decide_eq_false h11
          refine g_on rfl rfl rfl ?_
          refine fad rfl Tryd.underlying30 rfl ty3.sz ?_
          refine g_on rfl rfl rfl ?_
          refine ldp 0 0 _ rfl rfl rfl rfl ty3 ?_
          refine g_on rfl rfl rfl ?_
          refine cmp _ rfl rfl rfl ?_
          refine pkf (.bool _) rfl rfl ?_
          refine mv (.bool _) rfl ?_
          refine jsplit 42 rfl (fun h13 => ?_) (fun h13 => ?_)
          · replace h13 := of_decide_eq_true h13
            refine g_on rfl rfl rfl ?_
            refine fad rfl Tryd.underlying30 rfl ty23.sz ?_
            refine g_on rfl rfl rfl ?_
            refine ldp 0 5 _ rfl rfl rfl rfl ty23 ?_
            refine g_on rfl rfl rfl ?_
            refine equ64 (a := c.number) (b := (0 : UInt64)) _ rfl rfl rfl ?_
            refine pkt (.bool _) rfl rfl ?_
            refine jt ?_
            refine c_cond rfl (fun h14 => ?_) (fun h14 => ?_)
            · replace h14 := ndt h14
              refine c_seq ?_
              refine c_reg ?_
              refine asg (.bool _) rfl ?_
              refine jt ?_
              refine c_ret ?_
              exact j_end (own0 := []) (ro0 := [sm.seg ms]) (.inl rfl) rfl (hr1 Tryd.results19 (rvt (v := (.bool _)) rfl)) [] [0] [] [_] [] _ rfl rfl (by kernel_rfl) rfl impl_nil (⟨(by first | (rw [othersB, if_neg hA, if_neg hB, if_neg hC]; simp [*]; done) | (exfalso; omega) | simp_all [othersB]), rfl, rfl⟩)
            · replace h14 := ndf h14
              refine c_skip ?_
              exact e_lp () (by repeat (first | exact out_self | refine out_hav (by kernel_rfl) ?_ | refine out_look (by kernel_rfl) ?_)) (by first | (exfalso; omega) | simp_all) trivial trivial rfl rfl rfl
          · replace h13 := of_decide_eq_false h13
            refine g_off rfl rfl rfl rfl ?_
            refine g_off rfl rfl rfl rfl ?_
            refine g_off rfl rfl rfl rfl ?_
            refine pkf (.bool _) rfl rfl ?_
            refine jt ?_
            refine c_false rfl ?_
            refine c_skip ?_
            exact e_lp () (by repeat (first | exact out_self | refine out_hav (by kernel_rfl) ?_ | refine out_look (by kernel_rfl) ?_)) (by first | (exfalso; omega) | simp_all) trivial trivial rfl rfl rfl
      · rintro _u g hC
        try dsimp only at hC ⊢
        refine c_seq ?_
        refine c_reg ?_
        refine fad rfl Tryd.underlying30 rfl ty3.sz ?_
        refine ldp 0 0 _ rfl rfl rfl rfl ty3 ?_
        refine cmp _ rfl rfl rfl ?_
        refine mv (.bool _) rfl ?_
        refine jsplit 50 rfl (fun h15 => ?_) (fun h15 => ?_)
        · replace h15 := of_decide_eq_true h15
          refine g_off rfl rfl rfl rfl ?_
          refine g_off rfl rfl rfl rfl ?_
          refine g_off rfl rfl rfl rfl ?_
          refine g_off rfl rfl rfl rfl ?_
          refine g_off rfl rfl rfl rfl ?_
          refine g_und rfl rfl rfl ?_
          refine g_und rfl rfl rfl ?_
          refine g_und rfl rfl rfl ?_
          refine g_und rfl rfl rfl ?_
          refine g_off rfl rfl rfl rfl ?_
          refine pkt (.bool _) rfl rfl ?_
          refine asg (.bool _) rfl ?_
          refine jt ?_
          refine c_ret ?_
          exact j_end (own0 := []) (ro0 := [sm.seg ms]) (.inl rfl) rfl (hr1 Tryd.results19 (rvt (v := (.bool _)) rfl)) [] [0] [] [_] [] _ rfl rfl (by kernel_rfl) rfl impl_nil (⟨(by first | (rw [othersB, if_neg hA, if_neg hB, if_neg hC]; simp [*]; done) | (exfalso; omega) | simp_all [othersB]), rfl, rfl⟩)
        · replace h15 := of_decide_eq_false h15
          refine g_on rfl rfl rfl ?_
          refine fad rfl Tryd.underlying30 rfl ty28.sz ?_
          refine g_on rfl rfl rfl ?_
          refine ldp 0 3 _ rfl rfl rfl rfl ty28 ?_
          refine g_on rfl rfl rfl ?_
          refine xcal (args := [.float .f64 c.lat.b.toNat]) (.int .u64 (c.lat.b.toNat : Int)) Tryd.func27 (by kernel_rfl) (by kernel_rfl) (by kernel_rfl) (fun w => rfl) (by kernel_rfl) rfl ?_
          refine g_on rfl rfl rfl ?_
          refine equ64 (a := c.lat.b) (b := (0 : UInt64)) _ rfl rfl rfl ?_
          refine g_on rfl rfl rfl ?_
          refine mv (.bool _) rfl ?_
          refine jsplit 55 rfl (fun h16 => ?_) (fun h16 => ?_)
          · replace h16 := of_decide_eq_true h16
            refine g_on rfl rfl rfl ?_
            refine fad rfl Tryd.underlying30 rfl ty28.sz ?_
            refine g_on rfl rfl rfl ?_
            refine ldp 0 4 _ rfl rfl rfl rfl ty28 ?_
            refine g_on rfl rfl rfl ?_
            refine xcal (args := [.float .f64 c.long.b.toNat]) (.int .u64 (c.long.b.toNat : Int)) Tryd.func27 (by kernel_rfl) (by kernel_rfl) (by kernel_rfl) (fun w => rfl) (by kernel_rfl) rfl ?_
            refine g_on rfl rfl rfl ?_
            refine equ64 (a := c.long.b) (b := (0 : UInt64)) _ rfl rfl rfl ?_
            refine g_on rfl rfl rfl ?_
            refine pkt (.bool _) rfl rfl ?_
            refine pkf (.bool _) rfl rfl ?_
            refine asg (.bool _) rfl ?_
            refine jt ?_
            refine c_ret ?_
            exact j_end (own0 := []) (ro0 := [sm.seg ms]) (.inl rfl) rfl (hr1 Tryd.results19 (rvt (v := (.bool _)) rfl)) [] [0] [] [_] [] _ rfl rfl (by kernel_rfl) rfl impl_nil (⟨(by first | (rw [othersB, if_neg hA, if_neg hB, if_neg hC]; simp [*]; done) | (exfalso; omega) | simp_all [othersB]), rfl, rfl⟩)
          · replace h16 := of_decide_eq_false h16
            refine g_off rfl rfl rfl rfl ?_
            refine g_off rfl rfl rfl rfl ?_
            refine g_off rfl rfl rfl rfl ?_
            refine g_off rfl rfl rfl rfl ?_
            refine g_on rfl rfl rfl ?_
            refine pkf (.bool _) rfl rfl ?_
            refine pkf (.bool _) rfl rfl ?_
            refine asg (.bool _) rfl ?_
            refine jt ?_
            refine c_ret ?_
            exact j_end (own0 := []) (ro0 := [sm.seg ms]) (.inl rfl) rfl (hr1 Tryd.results19 (rvt (v := (.bool _)) rfl)) [] [0] [] [_] [] _ rfl rfl (by kernel_rfl) rfl impl_nil (⟨(by first | (rw [othersB, if_neg hA, if_neg hB, if_neg hC]; simp [*]; done) | (exfalso; omega) | simp_all [othersB]), rfl, rfl⟩)
end Go.Proofs.YthpbiamicidakaaDoor
