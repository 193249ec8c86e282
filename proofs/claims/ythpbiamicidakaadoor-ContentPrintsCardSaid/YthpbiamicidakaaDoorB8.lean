/- Contracts of the program's functions, walked. No condition. -/
import Derived.Test.YthpbiamicidakaaDoorB7
namespace Go.Proofs.YthpbiamicidakaaDoor
open Go Go.Proofs Go.PW
open Go.PW.Enc (enc val)

def marksS (ms : List UInt32) : Str := ms.flatMap fun m => [32] ++ fmtN 10 m.toNat
def bodyV (c : Con) (ms : List UInt32) : Str :=
  if c.kind = 1 then [116, 101, 120, 116, 32] ++ quoteS c.text
  else if c.kind = 2 then (if c.number = 2 then [114, 101, 97, 100] else [99, 97, 109, 101]) ++ marksS ms
  else if c.kind = 3 then [112, 108, 97, 99, 101, 32] ++ padN 16 (fmtN 16 c.lat.b.toNat) ++ [32] ++ padN 16 (fmtN 16 c.long.b.toNat) ++ [32] ++ quoteS c.text
  else if c.kind = 4 then [114, 101, 97, 99, 116, 32] ++ fmtN 10 c.number.toNat ++ [32] ++ quoteS c.text
  else if c.kind = 5 then [116, 105, 109, 101, 114, 32] ++ fmtN 10 c.number.toNat
  else [102, 105, 108, 101, 32] ++ quoteS c.text ++ [32] ++ fmtN 10 c.number.toNat ++ [32] ++ hexS c.key.l
def printV (c : Con) (ms : List UInt32) : Str := if chkV c ms = 0 then bodyV c ms else []
theorem marksS_on {ms : List UInt32} {i : Nat} (h : i < ms.length) : marksS (ms.take (i + 1)) = marksS (ms.take i) ++ ([32] ++ fmtN 10 (List.getD ms i 0).toNat) := by
  unfold marksS
  rw [List.take_succ_eq_append_getElem h, List.flatMap_append]
  simp [List.getD, h]
theorem marksS_len (ms : List UInt32) : (marksS ms).length ≤ 66 * ms.length := by
  unfold marksS
  induction ms with
  | nil => simp
  | cons a r ih =>
    have := (fmtN_length 10 a.toNat).2
    simp only [List.flatMap_cons, List.length_append, List.length_cons, List.length_nil] at *
    omega
structure PrOk (c : Con) (ms : List UInt32) : Prop where
  k : 1 ≤ c.kind ∧ c.kind ≤ 6
  t : c.kind ≠ 2 → c.kind ≠ 5 → u8ok c.text = true ∧ c.text.length ≤ 2000
  m : c.kind = 2 → ms.length ≤ 100
theorem pr_ok {c : Con} {ms : List UInt32} (h : chkV c ms = 0) : PrOk c ms := by
  have hf : fitsB c ms = true := by
    unfold chkV at h
    by_cases h1 : c.kind = 3 ∧ (oddB c.lat ⟨4636033603912859648⟩ = true ∨ oddB c.long ⟨4640537203540230144⟩ = true)
    · rw [if_pos h1] at h; cases h
    · rw [if_neg h1] at h
      cases hb : fitsB c ms with
      | true => rfl
      | false => rw [hb, if_pos rfl] at h; cases h
  simp only [fitsB, Bool.and_eq_true] at hf
  have hs := hf.1.1
  unfold fitsSt at hs
  by_cases k1 : c.kind = 1
  · rw [if_pos k1] at hs
    simp only [saidB, Bool.and_eq_true, decide_eq_true_eq] at hs
    exact ⟨by omega, fun _ _ => ⟨hs.2, by omega⟩, fun h => by omega⟩
  by_cases k2 : c.kind = 2
  · rw [if_neg k1, if_pos k2] at hs
    simp only [Bool.and_eq_true, decide_eq_true_eq] at hs
    exact ⟨by omega, fun h => absurd k2 h, fun _ => by omega⟩
  by_cases k3 : c.kind = 3
  · rw [if_neg k1, if_neg k2, if_pos k3] at hs
    simp only [saidB, Bool.and_eq_true, decide_eq_true_eq] at hs
    exact ⟨by omega, fun _ _ => ⟨hs.2, by omega⟩, fun h => by omega⟩
  by_cases k4 : c.kind = 4
  · rw [if_neg k1, if_neg k2, if_neg k3, if_pos k4] at hs
    simp only [saidB, Bool.and_eq_true, decide_eq_true_eq] at hs
    exact ⟨by omega, fun _ _ => ⟨hs.1.2, by omega⟩, fun h => by omega⟩
  by_cases k5 : c.kind = 5
  · exact ⟨by omega, fun _ h => absurd k5 h, fun h => by omega⟩
  by_cases k6 : c.kind = 6
  · rw [if_neg k1, if_neg k2, if_neg k3, if_neg k4, if_neg k5, if_pos k6] at hs
    simp only [saidB, Bool.and_eq_true, decide_eq_true_eq] at hs
    exact ⟨by omega, fun _ _ => ⟨hs.1.2, by omega⟩, fun h => by omega⟩
  · rw [if_neg k1, if_neg k2, if_neg k3, if_neg k4, if_neg k5, if_neg k6] at hs; cases hs
theorem qbody_len : ∀ (n : Nat) (s : Str), s.length ≤ n → (qbody s).length ≤ 70 * s.length
  | n, s, hn => by
    rw [qbody]
    by_cases h0 : s.length = 0
    · rw [if_pos h0]; simp
    rw [if_neg h0]
    by_cases h1 : u8step s = 0
    · rw [if_pos h1]; simp
    rw [if_neg h1]
    have hle := u8step_le h1 (by omega)
    cases n with
    | zero => omega
    | succ n =>
      have ih := qbody_len n (s.drop (u8step s)) (by rw [List.length_drop]; omega)
      have hq : (qstep (chr s)).length ≤ 69 := by
        have := (fmtN_length 16 (chr s)).2
        unfold qstep
        split
        · simp
        · split
          · simp
          · simp; omega
      rw [List.length_append]; rw [List.length_drop] at ih; omega
theorem quoteS_len (s : Str) : (quoteS s).length ≤ 70 * s.length + 2 := by
  have := qbody_len s.length s (Nat.le_refl _)
  unfold quoteS; simp only [List.length_append, List.length_cons, List.length_nil]; omega
def alikeV (x : Con) (mx : List UInt32) (y : Con) (my : List UInt32) : Bool := decide (x.kind = y.kind ∧ x.text = y.text ∧ x.number = y.number ∧ x.key = y.key ∧ mx = my ∧ x.lat.b = y.lat.b ∧ x.long.b = y.long.b)
theorem alike_refl (x : Con) (mx : List UInt32) : alikeV x mx x mx = true := decide_eq_true ⟨rfl, rfl, rfl, rfl, rfl, rfl, rfl⟩
theorem marks_eq {mx my : List UInt32} (hl : mx.length = my.length) (h : ∀ j, j < mx.length → List.getD mx j 0 = List.getD my j 0) : mx = my := by
  apply List.ext_getElem hl
  intro i h1 h2
  have := h i h1
  simpa [List.getD, h1, h2] using this

set_option maxRecDepth 20000 in
set_option maxHeartbeats 4000000 in
theorem alike_ct (x : Con) (sx : Vs) (mx : List UInt32) (hx : sx.ok mx) (y : Con) (sy : Vs) (my : List UInt32) (hy : sy.ok my) (hb : mx.length ≤ 4611686018427387904) : Ct Tryd.prog 11 [.agg ⟨cat [pt x.kind, pt x.text, p1 (.slice sx.adr mx.length sx.cap), pt x.lat, pt x.long, pt x.number, pt x.key]⟩, .agg ⟨cat [pt y.kind, pt y.text, p1 (.slice sy.adr my.length sy.cap), pt y.lat, pt y.long, pt y.number, pt y.key]⟩] [] [sx.seg mx, sy.seg my] (fun v o r => v = .bool (alikeV x mx y my) ∧ o = [] ∧ r = []) := by
  refine ct_enter Tryd.func11 rfl Tryd.ntmps11 (by kernel_rfl) rfl fun w0 => ?_
  refine c_seq ?_
  refine c_reg ?_
  refine bxx [pt x.kind, pt x.text, p1 (.slice sx.adr mx.length sx.cap), pt x.lat, pt x.long, pt x.number, pt x.key] _ rfl rfl fun b2 => ⟨trivial, ?_⟩
  refine bxx [pt y.kind, pt y.text, p1 (.slice sy.adr my.length sy.cap), pt y.lat, pt y.long, pt y.number, pt y.key] _ rfl rfl fun b3 => ⟨trivial, ?_⟩
  refine asg (.bool _) rfl ?_
  refine jt ?_
  refine c_seq ?_
  refine c_seq ?_
  refine c_reg ?_
  refine fad rfl Tryd.underlying30 rfl ty3.sz ?_
  refine ldp 0 0 _ rfl rfl rfl rfl ty3 ?_
  refine fad rfl Tryd.underlying30 rfl ty3.sz ?_
  refine ldp 1 0 _ rfl rfl rfl rfl ty3 ?_
  refine cmp _ rfl rfl rfl ?_
  refine mv (.bool _) rfl ?_
  refine jsplit 11 rfl (fun h1 => ?_) (fun h1 => ?_)
  · replace h1 := ndt h1
    refine g_off rfl rfl rfl rfl ?_
    refine g_off rfl rfl rfl rfl ?_
    refine g_off rfl rfl rfl rfl ?_
    refine g_off rfl rfl rfl rfl ?_
    refine g_off rfl rfl rfl rfl ?_
    refine pkt (.bool _) rfl rfl ?_
    refine mv (.bool _) rfl ?_
    refine g_off rfl rfl rfl rfl ?_
    refine g_off rfl rfl rfl rfl ?_
    refine g_off rfl rfl rfl rfl ?_
    refine g_off rfl rfl rfl rfl ?_
    refine g_off rfl rfl rfl rfl ?_
    refine pkt (.bool _) rfl rfl ?_
    refine mv (.bool _) rfl ?_
    refine g_off rfl rfl rfl rfl ?_
    refine g_off rfl rfl rfl rfl ?_
    refine g_off rfl rfl rfl rfl ?_
    refine g_off rfl rfl rfl rfl ?_
    refine g_off rfl rfl rfl rfl ?_
    refine pkt (.bool _) rfl rfl ?_
    refine mv (.bool _) rfl ?_
    refine g_off rfl rfl rfl rfl ?_
    refine g_off rfl rfl rfl rfl ?_
    refine g_off rfl rfl rfl rfl ?_
    refine g_off rfl rfl rfl rfl ?_
    refine g_off rfl rfl rfl rfl ?_
    refine g_off rfl rfl rfl rfl ?_
    refine g_off rfl rfl rfl rfl ?_
    refine pkt (.bool _) rfl rfl ?_
    refine jt ?_
    refine c_true rfl ?_
    refine c_seq ?_
    refine c_reg ?_
    refine asg (.bool _) rfl ?_
    refine jt ?_
    refine c_ret ?_
    exact j_end (own0 := []) (ro0 := [sx.seg mx, sy.seg my]) (.inl rfl) rfl (hr1 Tryd.results11 (rvt (v := (.bool _)) rfl)) [] [0, 1] [] [_, _] [] _ rfl rfl (by kernel_rfl) rfl impl_nil (⟨congrArg Value.bool (decide_eq_false (fun h => by obtain ⟨a1, a2, a3, a4, a5, a6, a7⟩ := h; subst a5; first | contradiction | omega)).symm, rfl, rfl⟩)
  · replace h1 := ndf h1
    refine g_on rfl rfl rfl ?_
    refine fad rfl Tryd.underlying30 rfl ty9.sz ?_
    refine g_on rfl rfl rfl ?_
    refine ldp 0 1 _ rfl rfl rfl rfl ty9 ?_
    refine g_on rfl rfl rfl ?_
    refine fad rfl Tryd.underlying30 rfl ty9.sz ?_
    refine g_on rfl rfl rfl ?_
    refine ldp 1 1 _ rfl rfl rfl rfl ty9 ?_
    refine g_on rfl rfl rfl ?_
    refine scmp (a := x.text) (b := y.text) _ rfl rfl Tryd.underlying9 rfl ?_
    refine pkf (.bool _) rfl rfl ?_
    refine mv (.bool _) rfl ?_
    refine jsplit 18 rfl (fun h2 => ?_) (fun h2 => ?_)
    · replace h2 := ndt h2
      refine g_off rfl rfl rfl rfl ?_
      refine g_off rfl rfl rfl rfl ?_
      refine g_off rfl rfl rfl rfl ?_
      refine g_off rfl rfl rfl rfl ?_
      refine g_off rfl rfl rfl rfl ?_
      refine pkt (.bool _) rfl rfl ?_
      refine mv (.bool _) rfl ?_
      refine g_off rfl rfl rfl rfl ?_
      refine g_off rfl rfl rfl rfl ?_
      refine g_off rfl rfl rfl rfl ?_
      refine g_off rfl rfl rfl rfl ?_
      refine g_off rfl rfl rfl rfl ?_
      refine pkt (.bool _) rfl rfl ?_
      refine mv (.bool _) rfl ?_
      refine g_off rfl rfl rfl rfl ?_
      refine g_off rfl rfl rfl rfl ?_
      refine g_off rfl rfl rfl rfl ?_
      refine g_off rfl rfl rfl rfl ?_
      refine g_off rfl rfl rfl rfl ?_
      refine g_off rfl rfl rfl rfl ?_
      refine g_off rfl rfl rfl rfl ?_
      refine pkt (.bool _) rfl rfl ?_
      refine jt ?_
      refine c_true rfl ?_
      refine c_seq ?_
      refine c_reg ?_
      refine asg (.bool _) rfl ?_
      refine jt ?_
      refine c_ret ?_
      exact j_end (own0 := []) (ro0 := [sx.seg mx, sy.seg my]) (.inl rfl) rfl (hr1 Tryd.results11 (rvt (v := (.bool _)) rfl)) [] [0, 1] [] [_, _] [] _ rfl rfl (by kernel_rfl) rfl impl_nil (⟨congrArg Value.bool (decide_eq_false (fun h => by obtain ⟨a1, a2, a3, a4, a5, a6, a7⟩ := h; subst a5; first | contradiction | omega)).symm, rfl, rfl⟩)
    · replace h2 := ndf h2
      refine g_on rfl rfl rfl ?_
      refine fad rfl Tryd.underlying30 rfl ty23.sz ?_
      refine g_on rfl rfl rfl ?_
      refine ldp 0 5 _ rfl rfl rfl rfl ty23 ?_
      refine g_on rfl rfl rfl ?_
      refine fad rfl Tryd.underlying30 rfl ty23.sz ?_
      refine g_on rfl rfl rfl ?_
      refine ldp 1 5 _ rfl rfl rfl rfl ty23 ?_
      refine g_on rfl rfl rfl ?_
      refine equ64 (a := x.number) (b := y.number) _ rfl rfl rfl ?_
      refine pkf (.bool _) rfl rfl ?_
      refine mv (.bool _) rfl ?_
      refine jsplit 25 rfl (fun h3 => ?_) (fun h3 => ?_)
      · replace h3 := ndt h3
        refine g_off rfl rfl rfl rfl ?_
        refine g_off rfl rfl rfl rfl ?_
        refine g_off rfl rfl rfl rfl ?_
        refine g_off rfl rfl rfl rfl ?_
        refine g_off rfl rfl rfl rfl ?_
        refine pkt (.bool _) rfl rfl ?_
        refine mv (.bool _) rfl ?_
        refine g_off rfl rfl rfl rfl ?_
        refine g_off rfl rfl rfl rfl ?_
        refine g_off rfl rfl rfl rfl ?_
        refine g_off rfl rfl rfl rfl ?_
        refine g_off rfl rfl rfl rfl ?_
        refine g_off rfl rfl rfl rfl ?_
        refine g_off rfl rfl rfl rfl ?_
        refine pkt (.bool _) rfl rfl ?_
        refine jt ?_
        refine c_true rfl ?_
        refine c_seq ?_
        refine c_reg ?_
        refine asg (.bool _) rfl ?_
        refine jt ?_
        refine c_ret ?_
        exact j_end (own0 := []) (ro0 := [sx.seg mx, sy.seg my]) (.inl rfl) rfl (hr1 Tryd.results11 (rvt (v := (.bool _)) rfl)) [] [0, 1] [] [_, _] [] _ rfl rfl (by kernel_rfl) rfl impl_nil (⟨congrArg Value.bool (decide_eq_false (fun h => by obtain ⟨a1, a2, a3, a4, a5, a6, a7⟩ := h; subst a5; first | contradiction | omega)).symm, rfl, rfl⟩)
      · replace h3 := ndf h3
        refine g_on rfl rfl rfl ?_
        refine fad rfl Tryd.underlying30 rfl ty25.sz ?_
        refine g_on rfl rfl rfl ?_
        refine ldp 0 6 _ rfl rfl rfl rfl ty25 ?_
        refine g_on rfl rfl rfl ?_
        refine fad rfl Tryd.underlying30 rfl ty25.sz ?_
        refine g_on rfl rfl rfl ?_
        refine ldp 1 6 _ rfl rfl rfl rfl ty25 ?_
        refine g_on rfl rfl rfl ?_
        refine eqA x.key y.key _ rfl rfl rfl rfl eq25 rfl Tryd.eqGuardType25 rfl ?_
        refine pkf (.bool _) rfl rfl ?_
        refine mv (.bool _) rfl ?_
        refine jsplit 32 rfl (fun h4 => ?_) (fun h4 => ?_)
        · replace h4 := ndt h4
          refine g_off rfl rfl rfl rfl ?_
          refine g_off rfl rfl rfl rfl ?_
          refine g_off rfl rfl rfl rfl ?_
          refine g_off rfl rfl rfl rfl ?_
          refine g_off rfl rfl rfl rfl ?_
          refine g_off rfl rfl rfl rfl ?_
          refine g_off rfl rfl rfl rfl ?_
          refine pkt (.bool _) rfl rfl ?_
          refine jt ?_
          refine c_true rfl ?_
          refine c_seq ?_
          refine c_reg ?_
          refine asg (.bool _) rfl ?_
          refine jt ?_
          refine c_ret ?_
          exact j_end (own0 := []) (ro0 := [sx.seg mx, sy.seg my]) (.inl rfl) rfl (hr1 Tryd.results11 (rvt (v := (.bool _)) rfl)) [] [0, 1] [] [_, _] [] _ rfl rfl (by kernel_rfl) rfl impl_nil (⟨congrArg Value.bool (decide_eq_false (fun h => by obtain ⟨a1, a2, a3, a4, a5, a6, a7⟩ := h; subst a5; first | contradiction | omega)).symm, rfl, rfl⟩)
        · replace h4 := ndf h4
          refine g_on rfl rfl rfl ?_
          refine fad rfl Tryd.underlying30 rfl ty22.sz ?_
          refine g_on rfl rfl rfl ?_
          refine ldp 0 2 _ rfl rfl rfl rfl ty22 ?_
          refine g_on rfl rfl rfl ?_
          refine lenS rfl Tryd.underlying22 ?_
          refine g_on rfl rfl rfl ?_
          refine fad rfl Tryd.underlying30 rfl ty22.sz ?_
          refine g_on rfl rfl rfl ?_
          refine ldp 1 2 _ rfl rfl rfl rfl ty22 ?_
          refine g_on rfl rfl rfl ?_
          refine lenS rfl Tryd.underlying22 ?_
          refine g_on rfl rfl rfl ?_
          refine cmp _ rfl rfl rfl ?_
          refine pkf (.bool _) rfl rfl ?_
          refine jt ?_
          refine c_cond rfl (fun h5 => ?_) (fun h5 => ?_)
          · replace h5 := ndt h5
            refine c_seq ?_
            refine c_reg ?_
            refine asg (.bool _) rfl ?_
            refine jt ?_
            refine c_ret ?_
            exact j_end (own0 := []) (ro0 := [sx.seg mx, sy.seg my]) (.inl rfl) rfl (hr1 Tryd.results11 (rvt (v := (.bool _)) rfl)) [] [0, 1] [] [_, _] [] _ rfl rfl (by kernel_rfl) rfl impl_nil (⟨congrArg Value.bool (decide_eq_false (fun h => by obtain ⟨a1, a2, a3, a4, a5, a6, a7⟩ := h; subst a5; first | contradiction | omega)).symm, rfl, rfl⟩)
          · replace h5 := ndf h5
            refine c_skip ?_
            refine e_then ?_
            refine c_seq ?_
            refine c_seq ?_
            refine c_reg ?_
            refine asg (.int _ _) rfl ?_
            refine jt ?_
            refine c_block ?_
            refine c_loop (σ := Nat) (fun i => i ≤ mx.length ∧ mx.length = my.length ∧ ∀ j, j < i → List.getD mx j 0 = List.getD my j 0) (fun i => mx.length - i) (fun i => [(5, .int .i64 (i : Int))]) (fun i => [[(b2, .cells (cat [pt x.kind, pt x.text, p1 (.slice sx.adr mx.length sx.cap), pt x.lat, pt x.long, pt x.number, pt x.key]) 30)], [(b3, .cells (cat [pt y.kind, pt y.text, p1 (.slice sy.adr my.length sy.cap), pt y.lat, pt y.long, pt y.number, pt y.key]) 30)]]) (fun i => [sx.seg mx, sy.seg my]) [4, 5, 41, 42, 43, 44, 45, 46, 47, 48, 49, 50, 51, 52, 53, 54, 55, 56, 57, 58] 0 (⟨by omega, by omega, fun j hj => by omega⟩) ⟨rfl, trivial⟩ rfl rfl ?_
            rintro i g1 hI1
            try dsimp only at hI1 ⊢
            refine c_seq ?_
            refine c_seq ?_
            refine c_reg ?_
            refine mv (.int _ _) rfl ?_
            refine fad rfl Tryd.underlying30 rfl ty22.sz ?_
            refine ldp 0 2 _ rfl rfl rfl rfl ty22 ?_
            refine lenS rfl Tryd.underlying22 ?_
            refine cmp _ rfl rfl rfl ?_
            refine jt ?_
            refine c_cond rfl (fun h6 => ?_) (fun h6 => ?_)
            · replace h6 := of_decide_eq_true h6
              refine c_skip ?_
              refine e_then ?_
              refine c_seq ?_
              refine c_block ?_
              refine c_seq ?_
              refine c_dr [_, _, _, _] [] [(0, 0), (1, 0), (2, 0), (3, 0), (4, 0), (5, 0), (6, 0), (7, 0), (8, 0), (9, 0), (10, 0)] follows (by kernel_rfl) calm_body (keepS [0, 1, 2, 3] rfl) ?_
              refine fad rfl Tryd.underlying30 rfl ty22.sz ?_
              refine ldp 0 2 _ rfl rfl rfl rfl ty22 ?_
              refine mv (.int _ _) rfl ?_
              refine ixs sx mx i hx rfl rfl rfl Tryd.underlying22 ty47.sz rfl (by first | omega | (simp; done) | (simp; omega) | (simp at *; omega)) ?_
              refine ldvsG 2 (List.getD mx i 0) hx rfl rfl rfl rfl (getD_some (by first | omega | (simp; done) | (simp; omega) | (simp at *; omega))) ty47 ?_
              refine fad rfl Tryd.underlying30 rfl ty22.sz ?_
              refine ldp 1 2 _ rfl rfl rfl rfl ty22 ?_
              refine mv (.int _ _) rfl ?_
              refine ixs sy my i hy rfl rfl rfl Tryd.underlying22 ty47.sz rfl (by first | omega | (simp; done) | (simp; omega) | (simp at *; omega)) ?_
              refine ldvsG 3 (List.getD my i 0) hy rfl rfl rfl rfl (getD_some (by first | omega | (simp; done) | (simp; omega) | (simp at *; omega))) ty47 ?_
              refine equ32 (a := (List.getD mx i 0)) (b := (List.getD my i 0)) _ rfl rfl rfl ?_
              refine jt ?_
              refine c_cond rfl (fun h7 => ?_) (fun h7 => ?_)
              · replace h7 := ndt h7
                refine c_seq ?_
                refine c_reg ?_
                refine asg (.bool _) rfl ?_
                refine jt ?_
                refine c_ret ?_
                exact j_end (own0 := []) (ro0 := [sx.seg mx, sy.seg my]) (.inl rfl) rfl (hr1 Tryd.results11 (rvt (v := (.bool _)) rfl)) [] [0, 1] [] [_, _] [] _ rfl rfl (by kernel_rfl) rfl impl_nil (⟨congrArg Value.bool (decide_eq_false (fun h => by obtain ⟨a1, a2, a3, a4, a5, a6, a7⟩ := h; subst a5; first | contradiction | omega)).symm, rfl, rfl⟩)
              · replace h7 := ndf h7
                refine c_skip ?_
                refine e_in ?_
                refine e_then ?_
                refine c_reg ?_
                refine mv (.int _ _) rfl ?_
                refine addi rfl rfl rfl (by omega) ?_
                refine asg (.int _ _) rfl ?_
                refine jn ?_
                exact e_loop (i + 1) (⟨by omega, hI1.2.1, fun j hj => by rcases Nat.lt_succ_iff_lt_or_eq.1 hj with h | h; exact hI1.2.2 j h; subst h; assumption⟩) (by (try dsimp only); omega) (⟨rfl, trivial⟩) rfl rfl rfl
            · replace h6 := of_decide_eq_false h6
              refine c_exit rfl ?_
              refine e_then ?_
              refine c_seq ?_
              have HM : mx = my := marks_eq hI1.2.1 (fun j hj => hI1.2.2 j (by omega))
              refine c_dr [_, _, _, _] [] [(0, 0), (1, 0), (3, 0), (4, 0), (2, 1), (5, 1), (6, 0), (7, 0), (8, 0), (9, 0), (11, 0), (12, 0), (10, 1), (13, 1), (14, 0), (15, 0), (16, 0)] follows (by kernel_rfl) calm_body (keepS [0, 1, 2, 3] rfl) ?_
              refine fad rfl Tryd.underlying30 rfl ty28.sz ?_
              refine ldp 0 3 _ rfl rfl rfl rfl ty28 ?_
              refine fad rfl Tryd.underlying30 rfl ty28.sz ?_
              refine ldp 1 3 _ rfl rfl rfl rfl ty28 ?_
              refine xcal (args := [.float .f64 x.lat.b.toNat]) (.int .u64 (x.lat.b.toNat : Int)) Tryd.func27 (by kernel_rfl) (by kernel_rfl) (by kernel_rfl) (fun w => rfl) (by kernel_rfl) rfl ?_
              refine xcal (args := [.float .f64 y.lat.b.toNat]) (.int .u64 (y.lat.b.toNat : Int)) Tryd.func27 (by kernel_rfl) (by kernel_rfl) (by kernel_rfl) (fun w => rfl) (by kernel_rfl) rfl ?_
              refine equ64 (a := x.lat.b) (b := y.lat.b) _ rfl rfl rfl ?_
              refine mv (.bool _) rfl ?_
              refine jsplit 66 rfl (fun h8 => ?_) (fun h8 => ?_)
              · replace h8 := of_decide_eq_true h8
                refine g_on rfl rfl rfl ?_
                refine fad rfl Tryd.underlying30 rfl ty28.sz ?_
                refine g_on rfl rfl rfl ?_
                refine ldp 0 4 _ rfl rfl rfl rfl ty28 ?_
                refine g_on rfl rfl rfl ?_
                refine fad rfl Tryd.underlying30 rfl ty28.sz ?_
                refine g_on rfl rfl rfl ?_
                refine ldp 1 4 _ rfl rfl rfl rfl ty28 ?_
                refine g_on rfl rfl rfl ?_
                refine xcal (args := [.float .f64 x.long.b.toNat]) (.int .u64 (x.long.b.toNat : Int)) Tryd.func27 (by kernel_rfl) (by kernel_rfl) (by kernel_rfl) (fun w => rfl) (by kernel_rfl) rfl ?_
                refine g_on rfl rfl rfl ?_
                refine xcal (args := [.float .f64 y.long.b.toNat]) (.int .u64 (y.long.b.toNat : Int)) Tryd.func27 (by kernel_rfl) (by kernel_rfl) (by kernel_rfl) (fun w => rfl) (by kernel_rfl) rfl ?_
                refine g_on rfl rfl rfl ?_
                refine equ64 (a := x.long.b) (b := y.long.b) _ rfl rfl rfl ?_
                refine pkt (.bool _) rfl rfl ?_
                refine asg (.bool _) rfl ?_
                refine jt ?_
                refine c_ret ?_
                exact j_end (own0 := []) (ro0 := [sx.seg mx, sy.seg my]) (.inl rfl) rfl (hr1 Tryd.results11 (rvt (v := (.bool _)) rfl)) [] [0, 1] [] [_, _] [] _ rfl rfl (by kernel_rfl) rfl impl_nil (⟨by rw [show alikeV x mx y my = decide (x.long.b = y.long.b) from by simp [alikeV, *]], rfl, rfl⟩)
              · replace h8 := of_decide_eq_false h8
                refine g_off rfl rfl rfl rfl ?_
                refine g_off rfl rfl rfl rfl ?_
                refine g_off rfl rfl rfl rfl ?_
                refine g_off rfl rfl rfl rfl ?_
                refine g_off rfl rfl rfl rfl ?_
                refine g_off rfl rfl rfl rfl ?_
                refine g_off rfl rfl rfl rfl ?_
                refine pkf (.bool _) rfl rfl ?_
                refine asg (.bool _) rfl ?_
                refine jt ?_
                refine c_ret ?_
                exact j_end (own0 := []) (ro0 := [sx.seg mx, sy.seg my]) (.inl rfl) rfl (hr1 Tryd.results11 (rvt (v := (.bool _)) rfl)) [] [0, 1] [] [_, _] [] _ rfl rfl (by kernel_rfl) rfl impl_nil (⟨by rw [show alikeV x mx y my = false from by simp [alikeV, *]], rfl, rfl⟩)
end Go.Proofs.YthpbiamicidakaaDoor
