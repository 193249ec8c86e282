/- Laws of an engine and of the program's functions, gathered. No condition. -/
import Derived.Test.YthpbiamicidakaaDoorQ4
namespace Go.Proofs.YthpbiamicidakaaDoor
open Go Go.Proofs Go.PW
open Go.PW.Enc (enc val)
theorem lay56 : ∀ fs, Tryd.prog.underlying 56 = some (.struct fs) → Lay Tryd.prog fs [(0, 1), (1, 1), (2, 1)] := fun fs h => by rw [Tryd.underlying56] at h; cases h; unfold Lay; kernel_rfl
set_option maxRecDepth 20000 in
set_option maxHeartbeats 4000000 in
theorem Parse_ct (s : Str) (hs : s.length ≤ 140737488351232) (eu : TypeId) (ev : Value) (ru : TypeId) (rv : Value) : Ct Tryd.prog 12 [strV s] [] [tPow10 3, tDb64 8, tIf 5 eu ev, tIf 6 ru rv] (fun v w r => (∃ (c : Con) (ms : List UInt32) (o : Ow) (q : Nat), parseR s = .inr ((c, ms), q) ∧ ms.length ≤ 101 ∧ o.ok ms ∧ v = .tuple #[.agg ⟨cat [pt c.kind, pt c.text, p1 (.slice o.adr ms.length o.cap), pt c.lat, pt c.long, pt c.number, pt c.key]⟩, .int .i64 0, .int .i64 0] ∧ w = [o.seg ms 47] ∧ r = []) ∨ (∃ q : Nat, parseR s = .inl q ∧ v = .tuple #[.agg ⟨cat [pt (0 : Int), pt ([] : Str), p1 (.slice none 0 0), pt (⟨0⟩ : F64), pt (⟨0⟩ : F64), pt (0 : UInt64), pt (zarr : Key)]⟩, .int .i64 (q : Int), .int .i64 90] ∧ w = [] ∧ r = [])) := by
  have HW0 : (word s 0).length ≤ s.length := by have := word_length s 0; have := wlen_le s 0; omega
  refine ct_enter Tryd.func12 rfl Tryd.ntmps12 (by kernel_rfl) rfl fun w0 => ?_
  refine c_seq ?_
  refine c_reg ?_
  refine alo [pt (0 : Int), pt ([] : Str), p1 (.slice none 0 0), pt (⟨0⟩ : F64), pt (⟨0⟩ : F64), pt (0 : UInt64), pt (zarr : (Arr UInt8 32))] _ z30 rfl fun b2 => ⟨trivial, ?_⟩
  refine asg (.int _ _) rfl ?_
  refine asg (.int _ _) rfl ?_
  refine jt ?_
  refine c_seq ?_
  refine c_reg ?_
  refine mv (.string _) rfl ?_
  refine bld [pt ([] : Str), pt (0 : Int), p1 (.bool false)] [(0, pt s)] _ Tryd.underlying56 (lay56 _ Tryd.underlying56) z56 rfl rfl rfl ?_
  refine bxx [pt s, pt (0 : Int), p1 (.bool false)] _ rfl rfl fun b10 => ⟨trivial, ?_⟩
  refine asg (.pointer _) rfl ?_
  refine jt ?_
  refine c_seq ?_
  refine c_reg ?_
  refine mv (.pointer _) rfl ?_
  refine cal (word_rct b10 s 0 false (by omega) (by omega)) [] [0, 1] [_, _] rfl rfl rfl (by kernel_rfl) (impl_cons (impl_at 5 rfl) impl_nil) rfl ?_; rintro _ _ _ ⟨rfl, rfl, rfl⟩; refine ⟨trivial, ?_⟩
  refine asg (.string _) rfl ?_
  refine jt ?_
  refine c_seq ?_
  refine c_reg ?_
  refine mv (.pointer _) rfl ?_
  refine mv (.string _) rfl ?_
  refine lenT (s := (word s 0)) rfl Tryd.underlying9 ?_
  refine nlc rfl ?_
  refine fad rfl Tryd.underlying56 rfl ty3.sz ?_
  refine stp 1 1 _ (pt ((word s 0).length : Int)) rfl rfl rfl rfl rfl rfl ty3 ⟨trivial, ?_⟩
  refine jt ?_
  refine c_seq ?_
  refine c_reg ?_
  refine bld [pt (0 : Int), pt ([] : Str), p1 (.slice none 0 0), pt (⟨0⟩ : F64), pt (⟨0⟩ : F64), pt (0 : UInt64), pt (zarr : (Arr UInt8 32))] [] _ Tryd.underlying30 (lay30 _ Tryd.underlying30) z30 rfl rfl rfl ?_
  refine alo [pt (0 : Int), pt ([] : Str), p1 (.slice none 0 0), pt (⟨0⟩ : F64), pt (⟨0⟩ : F64), pt (0 : UInt64), pt (zarr : (Arr UInt8 32))] _ z30 rfl fun b7 => ⟨trivial, ?_⟩
  refine stw 2 _ [pt (0 : Int), pt ([] : Str), p1 (.slice none 0 0), pt (⟨0⟩ : F64), pt (⟨0⟩ : F64), pt (0 : UInt64), pt (zarr : (Arr UInt8 32))] rfl rfl rfl rfl ty30 ⟨trivial, ?_⟩
  refine jt ?_
  refine c_seq ?_
  refine c_seq ?_
  refine c_reg ?_
  refine mv (.string _) rfl ?_
  refine jt ?_
  refine c_block ?_
  refine c_seq ?_
  refine c_reg ?_
  refine scmp (a := (word s 0)) (b := ([116, 101, 120, 116] : Str)) _ rfl rfl Tryd.underlying9 rfl ?_
  refine asg (.bool _) rfl ?_
  refine jt ?_
  refine c_cond rfl (fun h1 => ?_) (fun h1 => ?_)
  · replace h1 := of_decide_eq_true h1
    refine c_reg ?_
    refine mv (.pointer _) rfl ?_
    refine cal (text_rct b10 s ((word s 0).length) (by omega) (by omega) 0 2000 (by omega) (by omega) eu ev ru rv) [1] [0, 2] [_, _] rfl rfl rfl (by kernel_rfl) (impl_cons (impl_at 1 rfl) (impl_cons (impl_at 2 rfl) (impl_cons (impl_at 3 rfl) impl_nil))) rfl ?_; rintro _ _ _ (⟨tt1, tq1, htx1, rfl, rfl, rfl⟩ | ⟨tt1, tq1, htx1, htx1b, rfl, rfl, rfl⟩)
    · have htx1b := textR_next htx1; refine ⟨trivial, ?_⟩
      refine fad rfl Tryd.underlying30 rfl ty3.sz ?_
      refine stp 1 0 _ (pt (1 : Int)) rfl rfl rfl rfl rfl rfl ty3 ⟨trivial, ?_⟩
      refine fad rfl Tryd.underlying30 rfl ty9.sz ?_
      refine stp 1 1 _ (pt tt1) rfl rfl rfl rfl rfl rfl ty9 ⟨trivial, ?_⟩
      refine jn ?_
      refine e_in ?_
      refine e_then ?_
      refine c_seq ?_
      refine c_seq ?_
      refine c_reg ?_
      refine mv (.pointer _) rfl ?_
      refine nlc rfl ?_
      refine fad rfl Tryd.underlying56 rfl ty4.sz ?_
      refine ldp 2 2 _ rfl rfl rfl rfl ty4 ?_
      refine mv (.bool _) rfl ?_
      refine g_on rfl rfl rfl ?_
      refine mv (.pointer _) rfl ?_
      refine g_on rfl rfl rfl ?_
      refine nlc rfl ?_
      refine g_on rfl rfl rfl ?_
      refine fad rfl Tryd.underlying56 rfl ty3.sz ?_
      refine g_on rfl rfl rfl ?_
      refine ldp 2 1 _ rfl rfl rfl rfl ty3 ?_
      refine g_on rfl rfl rfl ?_
      refine mv (.string _) rfl ?_
      refine g_on rfl rfl rfl ?_
      refine lenT (s := s) rfl Tryd.underlying9 ?_
      refine g_on rfl rfl rfl ?_
      refine cmp _ rfl rfl rfl ?_
      refine pkf (.bool _) rfl rfl ?_
      refine jt ?_
      refine c_cond rfl (fun h2 => ?_) (fun h2 => ?_)
      · replace h2 := of_decide_eq_true h2
        refine c_seq ?_
        refine c_dr [_, _, _, _, _, _] [] [(0, 0), (1, 0), (2, 0), (3, 0), (4, 0), (5, 1), (6, 0), (7, 0)] follows (by kernel_rfl) calm_body (keepS [1, 2, 3, 4, 5, 6] rfl) ?_
        refine bld [pt (0 : Int), pt ([] : Str), p1 (.slice none 0 0), pt (⟨0⟩ : F64), pt (⟨0⟩ : F64), pt (0 : UInt64), pt (zarr : (Arr UInt8 32))] [] _ Tryd.underlying30 (lay30 _ Tryd.underlying30) z30 rfl rfl rfl ?_
        refine mv (.pointer _) rfl ?_
        refine nlc rfl ?_
        refine fad rfl Tryd.underlying56 rfl ty3.sz ?_
        refine ldp 1 1 _ rfl rfl rfl rfl ty3 ?_
        refine stw 0 _ [pt (0 : Int), pt ([] : Str), p1 (.slice none 0 0), pt (⟨0⟩ : F64), pt (⟨0⟩ : F64), pt (0 : UInt64), pt (zarr : (Arr UInt8 32))] rfl rfl rfl rfl ty30 ⟨keepI [1, 2, 3, 4, 5, 6] rfl, ?_⟩
        refine asg (.int _ _) rfl ?_
        refine asg (.int _ _) rfl ?_
        refine jt ?_
        refine c_ret ?_
        exact j_end (own0 := []) (ro0 := [tPow10 3, tDb64 8, tIf 5 eu ev, tIf 6 ru rv]) (.inl rfl) rfl (hr3 Tryd.results12 (rvc (p := pa [pt (0 : Int), pt ([] : Str), p1 (.slice none 0 0), pt (⟨0⟩ : F64), pt (⟨0⟩ : F64), pt (0 : UInt64), pt (zarr : (Arr UInt8 32))]) 0 rfl rfl rfl ty30) (rvt (v := (.int _ _)) rfl) (rvt (v := (.int _ _)) rfl)) [] [0, 1, 2] [] [_, _, _] [] _ rfl rfl (by kernel_rfl) rfl impl_nil (.inr ⟨_, parse_text_e (by assumption) htx1 (by omega), rfl, rfl, rfl⟩)
      · replace h2 := of_decide_eq_false h2
        refine c_skip ?_
        refine e_then ?_
        refine c_seq ?_
        refine c_reg ?_
        refine ldw 1 _ rfl rfl ty30 ?_
        refine stw 0 _ [pt (1 : Int), pt tt1, p1 (.slice none 0 0), pt (⟨0⟩ : F64), pt (⟨0⟩ : F64), pt (0 : UInt64), pt (zarr : (Arr UInt8 32))] rfl rfl rfl rfl ty30 ⟨trivial, ?_⟩
        refine asg (.int _ _) rfl ?_
        refine asg (.int _ _) rfl ?_
        refine jt ?_
        refine c_ret ?_
        refine e_addE ?_
        exact j_end (own0 := []) (ro0 := [tPow10 3, tDb64 8, tIf 5 eu ev, tIf 6 ru rv]) (.inl rfl) rfl (hr3 Tryd.results12 (rvc (p := pa [pt (1 : Int), pt tt1, p1 (.slice none 0 0), pt (⟨0⟩ : F64), pt (⟨0⟩ : F64), pt (0 : UInt64), pt (zarr : (Arr UInt8 32))]) 0 rfl rfl rfl ty30) (rvt (v := (.int _ _)) rfl) (rvt (v := (.int _ _)) rfl)) [3] [0, 1, 2] [_] [_, _, _] [] _ rfl rfl (by kernel_rfl) rfl impl_nil (.inl ⟨(⟨(1 : Int), tt1, (⟨0⟩ : F64), (⟨0⟩ : F64), (0 : UInt64), (zarr : (Arr UInt8 32))⟩ : Con), [], Ow.nil, _, (by have h := parse_text (by assumption) htx1 (by omega); exact h), by simp, Ow.nil_ok, rfl, rfl, rfl⟩)
    · refine ⟨trivial, ?_⟩
      refine fad rfl Tryd.underlying30 rfl ty3.sz ?_
      refine stp 1 0 _ (pt (1 : Int)) rfl rfl rfl rfl rfl rfl ty3 ⟨trivial, ?_⟩
      refine fad rfl Tryd.underlying30 rfl ty9.sz ?_
      refine stp 1 1 _ (pt tt1) rfl rfl rfl rfl rfl rfl ty9 ⟨trivial, ?_⟩
      refine jn ?_
      refine e_in ?_
      refine e_then ?_
      refine c_seq ?_
      refine c_seq ?_
      refine c_reg ?_
      refine mv (.pointer _) rfl ?_
      refine nlc rfl ?_
      refine fad rfl Tryd.underlying56 rfl ty4.sz ?_
      refine ldp 2 2 _ rfl rfl rfl rfl ty4 ?_
      refine mv (.bool _) rfl ?_
      refine g_off rfl rfl rfl rfl ?_
      refine g_off rfl rfl rfl rfl ?_
      refine g_off rfl rfl rfl rfl ?_
      refine g_off rfl rfl rfl rfl ?_
      refine g_off rfl rfl rfl rfl ?_
      refine g_off rfl rfl rfl rfl ?_
      refine g_off rfl rfl rfl rfl ?_
      refine pkt (.bool _) rfl rfl ?_
      refine jt ?_
      refine c_true rfl ?_
      refine c_seq ?_
      refine c_dr [_, _, _, _, _, _] [] [(0, 0), (1, 0), (2, 0), (3, 0), (4, 0), (5, 1), (6, 0), (7, 0)] follows (by kernel_rfl) calm_body (keepS [1, 2, 3, 4, 5, 6] rfl) ?_
      refine bld [pt (0 : Int), pt ([] : Str), p1 (.slice none 0 0), pt (⟨0⟩ : F64), pt (⟨0⟩ : F64), pt (0 : UInt64), pt (zarr : (Arr UInt8 32))] [] _ Tryd.underlying30 (lay30 _ Tryd.underlying30) z30 rfl rfl rfl ?_
      refine mv (.pointer _) rfl ?_
      refine nlc rfl ?_
      refine fad rfl Tryd.underlying56 rfl ty3.sz ?_
      refine ldp 1 1 _ rfl rfl rfl rfl ty3 ?_
      refine stw 0 _ [pt (0 : Int), pt ([] : Str), p1 (.slice none 0 0), pt (⟨0⟩ : F64), pt (⟨0⟩ : F64), pt (0 : UInt64), pt (zarr : (Arr UInt8 32))] rfl rfl rfl rfl ty30 ⟨keepI [1, 2, 3, 4, 5, 6] rfl, ?_⟩
      refine asg (.int _ _) rfl ?_
      refine asg (.int _ _) rfl ?_
      refine jt ?_
      refine c_ret ?_
      exact j_end (own0 := []) (ro0 := [tPow10 3, tDb64 8, tIf 5 eu ev, tIf 6 ru rv]) (.inl rfl) rfl (hr3 Tryd.results12 (rvc (p := pa [pt (0 : Int), pt ([] : Str), p1 (.slice none 0 0), pt (⟨0⟩ : F64), pt (⟨0⟩ : F64), pt (0 : UInt64), pt (zarr : (Arr UInt8 32))]) 0 rfl rfl rfl ty30) (rvt (v := (.int _ _)) rfl) (rvt (v := (.int _ _)) rfl)) [] [0, 1, 2] [] [_, _, _] [] _ rfl rfl (by kernel_rfl) rfl impl_nil (.inr ⟨_, parse_text_f0 (by assumption) htx1, rfl, rfl, rfl⟩)
  · replace h1 := of_decide_eq_false h1
    refine c_seq ?_
    refine c_reg ?_
    refine scmp (a := (word s 0)) (b := ([99, 97, 109, 101] : Str)) _ rfl rfl Tryd.underlying9 rfl ?_
    refine asg (.bool _) rfl ?_
    refine jt ?_
    refine c_cond rfl (fun h3 => ?_) (fun h3 => ?_)
    · replace h3 := of_decide_eq_true h3
      refine c_reg ?_
      refine mv (.pointer _) rfl ?_
      refine cal (marks_ct b10 s ((word s 0).length) (by omega) (by omega) eu ev ru rv) [1] [0, 2] [_, _] rfl rfl rfl (by kernel_rfl) (impl_cons (impl_at 0 rfl) (impl_cons (impl_at 2 rfl) (impl_cons (impl_at 3 rfl) impl_nil))) rfl ?_; rintro _ _ _ (⟨mo2, mm2, mq2, hmk2, hmk2b, hmk2o, rfl, rfl, rfl⟩ | ⟨mo2, mm2, mq2, hmk2, hmk2b, hmk2o, rfl, rfl, rfl⟩)
      · refine ⟨trivial, ?_⟩
        refine fad rfl Tryd.underlying30 rfl ty3.sz ?_
        refine stp 1 0 _ (pt (2 : Int)) rfl rfl rfl rfl rfl rfl ty3 ⟨trivial, ?_⟩
        refine fad rfl Tryd.underlying30 rfl ty23.sz ?_
        refine stp 1 5 _ (pt (1 : UInt64)) rfl rfl rfl rfl rfl rfl ty23 ⟨trivial, ?_⟩
        refine fad rfl Tryd.underlying30 rfl ty22.sz ?_
        refine stp 1 2 _ (p1 (.slice mo2.adr mm2.length mo2.cap)) rfl rfl rfl rfl rfl rfl ty22 ⟨trivial, ?_⟩
        refine jn ?_
        refine e_in ?_
        refine e_then ?_
        refine c_seq ?_
        refine c_seq ?_
        refine c_reg ?_
        refine mv (.pointer _) rfl ?_
        refine nlc rfl ?_
        refine fad rfl Tryd.underlying56 rfl ty4.sz ?_
        refine ldp 2 2 _ rfl rfl rfl rfl ty4 ?_
        refine mv (.bool _) rfl ?_
        refine g_on rfl rfl rfl ?_
        refine mv (.pointer _) rfl ?_
        refine g_on rfl rfl rfl ?_
        refine nlc rfl ?_
        refine g_on rfl rfl rfl ?_
        refine fad rfl Tryd.underlying56 rfl ty3.sz ?_
        refine g_on rfl rfl rfl ?_
        refine ldp 2 1 _ rfl rfl rfl rfl ty3 ?_
        refine g_on rfl rfl rfl ?_
        refine mv (.string _) rfl ?_
        refine g_on rfl rfl rfl ?_
        refine lenT (s := s) rfl Tryd.underlying9 ?_
        refine g_on rfl rfl rfl ?_
        refine cmp _ rfl rfl rfl ?_
        refine pkf (.bool _) rfl rfl ?_
        refine jt ?_
        refine c_cond rfl (fun h4 => ?_) (fun h4 => ?_)
        · replace h4 := of_decide_eq_true h4
          refine c_seq ?_
          refine c_dr [_, _, _, _, _, _, _] [] [(0, 0), (1, 0), (2, 0), (3, 0), (4, 0), (5, 1), (6, 0), (7, 0)] follows (by kernel_rfl) calm_body (keepS [1, 2, 3, 4, 5, 6, 7] rfl) ?_
          refine bld [pt (0 : Int), pt ([] : Str), p1 (.slice none 0 0), pt (⟨0⟩ : F64), pt (⟨0⟩ : F64), pt (0 : UInt64), pt (zarr : (Arr UInt8 32))] [] _ Tryd.underlying30 (lay30 _ Tryd.underlying30) z30 rfl rfl rfl ?_
          refine mv (.pointer _) rfl ?_
          refine nlc rfl ?_
          refine fad rfl Tryd.underlying56 rfl ty3.sz ?_
          refine ldp 1 1 _ rfl rfl rfl rfl ty3 ?_
          refine stw 0 _ [pt (0 : Int), pt ([] : Str), p1 (.slice none 0 0), pt (⟨0⟩ : F64), pt (⟨0⟩ : F64), pt (0 : UInt64), pt (zarr : (Arr UInt8 32))] rfl rfl rfl rfl ty30 ⟨keepI [1, 2, 3, 4, 5, 6, 7] rfl, ?_⟩
          refine asg (.int _ _) rfl ?_
          refine asg (.int _ _) rfl ?_
          refine jt ?_
          refine c_ret ?_
          exact j_end (own0 := []) (ro0 := [tPow10 3, tDb64 8, tIf 5 eu ev, tIf 6 ru rv]) (.inl rfl) rfl (hr3 Tryd.results12 (rvc (p := pa [pt (0 : Int), pt ([] : Str), p1 (.slice none 0 0), pt (⟨0⟩ : F64), pt (⟨0⟩ : F64), pt (0 : UInt64), pt (zarr : (Arr UInt8 32))]) 0 rfl rfl rfl ty30) (rvt (v := (.int _ _)) rfl) (rvt (v := (.int _ _)) rfl)) [] [0, 1, 2, 3] [] [_, _, _, _] [] _ rfl rfl (by kernel_rfl) rfl impl_nil (.inr ⟨_, parse_came_e (by assumption) hmk2 (by omega), rfl, rfl, rfl⟩)
        · replace h4 := of_decide_eq_false h4
          refine c_skip ?_
          refine e_then ?_
          refine c_seq ?_
          refine c_reg ?_
          refine ldw 1 _ rfl rfl ty30 ?_
          refine stw 0 _ [pt (2 : Int), pt ([] : Str), p1 (.slice mo2.adr mm2.length mo2.cap), pt (⟨0⟩ : F64), pt (⟨0⟩ : F64), pt (1 : UInt64), pt (zarr : (Arr UInt8 32))] rfl rfl rfl rfl ty30 ⟨trivial, ?_⟩
          refine asg (.int _ _) rfl ?_
          refine asg (.int _ _) rfl ?_
          refine jt ?_
          refine c_ret ?_
          exact j_end (own0 := []) (ro0 := [tPow10 3, tDb64 8, tIf 5 eu ev, tIf 6 ru rv]) (.inl rfl) rfl (hr3 Tryd.results12 (rvc (p := pa [pt (2 : Int), pt ([] : Str), p1 (.slice mo2.adr mm2.length mo2.cap), pt (⟨0⟩ : F64), pt (⟨0⟩ : F64), pt (1 : UInt64), pt (zarr : (Arr UInt8 32))]) 0 rfl rfl rfl ty30) (rvt (v := (.int _ _)) rfl) (rvt (v := (.int _ _)) rfl)) [3] [0, 1, 2] [_] [_, _, _] [] _ rfl rfl (by kernel_rfl) rfl impl_nil (.inl ⟨(⟨(2 : Int), ([] : Str), (⟨0⟩ : F64), (⟨0⟩ : F64), (1 : UInt64), (zarr : (Arr UInt8 32))⟩ : Con), mm2, mo2, _, (by have h := parse_came (by assumption) hmk2 (by omega); exact h), by omega, hmk2o, rfl, rfl, rfl⟩)
      · refine ⟨trivial, ?_⟩
        refine fad rfl Tryd.underlying30 rfl ty3.sz ?_
        refine stp 1 0 _ (pt (2 : Int)) rfl rfl rfl rfl rfl rfl ty3 ⟨trivial, ?_⟩
        refine fad rfl Tryd.underlying30 rfl ty23.sz ?_
        refine stp 1 5 _ (pt (1 : UInt64)) rfl rfl rfl rfl rfl rfl ty23 ⟨trivial, ?_⟩
        refine fad rfl Tryd.underlying30 rfl ty22.sz ?_
        refine stp 1 2 _ (p1 (.slice mo2.adr mm2.length mo2.cap)) rfl rfl rfl rfl rfl rfl ty22 ⟨trivial, ?_⟩
        refine jn ?_
        refine e_in ?_
        refine e_then ?_
        refine c_seq ?_
        refine c_seq ?_
        refine c_reg ?_
        refine mv (.pointer _) rfl ?_
        refine nlc rfl ?_
        refine fad rfl Tryd.underlying56 rfl ty4.sz ?_
        refine ldp 2 2 _ rfl rfl rfl rfl ty4 ?_
        refine mv (.bool _) rfl ?_
        refine g_off rfl rfl rfl rfl ?_
        refine g_off rfl rfl rfl rfl ?_
        refine g_off rfl rfl rfl rfl ?_
        refine g_off rfl rfl rfl rfl ?_
        refine g_off rfl rfl rfl rfl ?_
        refine g_off rfl rfl rfl rfl ?_
        refine g_off rfl rfl rfl rfl ?_
        refine pkt (.bool _) rfl rfl ?_
        refine jt ?_
        refine c_true rfl ?_
        refine c_seq ?_
        refine c_dr [_, _, _, _, _, _, _] [] [(0, 0), (1, 0), (2, 0), (3, 0), (4, 0), (5, 1), (6, 0), (7, 0)] follows (by kernel_rfl) calm_body (keepS [1, 2, 3, 4, 5, 6, 7] rfl) ?_
        refine bld [pt (0 : Int), pt ([] : Str), p1 (.slice none 0 0), pt (⟨0⟩ : F64), pt (⟨0⟩ : F64), pt (0 : UInt64), pt (zarr : (Arr UInt8 32))] [] _ Tryd.underlying30 (lay30 _ Tryd.underlying30) z30 rfl rfl rfl ?_
        refine mv (.pointer _) rfl ?_
        refine nlc rfl ?_
        refine fad rfl Tryd.underlying56 rfl ty3.sz ?_
        refine ldp 1 1 _ rfl rfl rfl rfl ty3 ?_
        refine stw 0 _ [pt (0 : Int), pt ([] : Str), p1 (.slice none 0 0), pt (⟨0⟩ : F64), pt (⟨0⟩ : F64), pt (0 : UInt64), pt (zarr : (Arr UInt8 32))] rfl rfl rfl rfl ty30 ⟨keepI [1, 2, 3, 4, 5, 6, 7] rfl, ?_⟩
        refine asg (.int _ _) rfl ?_
        refine asg (.int _ _) rfl ?_
        refine jt ?_
        refine c_ret ?_
        exact j_end (own0 := []) (ro0 := [tPow10 3, tDb64 8, tIf 5 eu ev, tIf 6 ru rv]) (.inl rfl) rfl (hr3 Tryd.results12 (rvc (p := pa [pt (0 : Int), pt ([] : Str), p1 (.slice none 0 0), pt (⟨0⟩ : F64), pt (⟨0⟩ : F64), pt (0 : UInt64), pt (zarr : (Arr UInt8 32))]) 0 rfl rfl rfl ty30) (rvt (v := (.int _ _)) rfl) (rvt (v := (.int _ _)) rfl)) [] [0, 1, 2, 3] [] [_, _, _, _] [] _ rfl rfl (by kernel_rfl) rfl impl_nil (.inr ⟨_, parse_came_f0 (by assumption) hmk2, rfl, rfl, rfl⟩)
    · replace h3 := of_decide_eq_false h3
      refine c_seq ?_
      refine c_reg ?_
      refine scmp (a := (word s 0)) (b := ([114, 101, 97, 100] : Str)) _ rfl rfl Tryd.underlying9 rfl ?_
      refine asg (.bool _) rfl ?_
      refine jt ?_
      refine c_cond rfl (fun h5 => ?_) (fun h5 => ?_)
      · replace h5 := of_decide_eq_true h5
        refine c_reg ?_
        refine mv (.pointer _) rfl ?_
        refine cal (marks_ct b10 s ((word s 0).length) (by omega) (by omega) eu ev ru rv) [1] [0, 2] [_, _] rfl rfl rfl (by kernel_rfl) (impl_cons (impl_at 0 rfl) (impl_cons (impl_at 2 rfl) (impl_cons (impl_at 3 rfl) impl_nil))) rfl ?_; rintro _ _ _ (⟨mo3, mm3, mq3, hmk3, hmk3b, hmk3o, rfl, rfl, rfl⟩ | ⟨mo3, mm3, mq3, hmk3, hmk3b, hmk3o, rfl, rfl, rfl⟩)
        · refine ⟨trivial, ?_⟩
          refine fad rfl Tryd.underlying30 rfl ty3.sz ?_
          refine stp 1 0 _ (pt (2 : Int)) rfl rfl rfl rfl rfl rfl ty3 ⟨trivial, ?_⟩
          refine fad rfl Tryd.underlying30 rfl ty23.sz ?_
          refine stp 1 5 _ (pt (2 : UInt64)) rfl rfl rfl rfl rfl rfl ty23 ⟨trivial, ?_⟩
          refine fad rfl Tryd.underlying30 rfl ty22.sz ?_
          refine stp 1 2 _ (p1 (.slice mo3.adr mm3.length mo3.cap)) rfl rfl rfl rfl rfl rfl ty22 ⟨trivial, ?_⟩
          refine jn ?_
          refine e_in ?_
          refine e_then ?_
          refine c_seq ?_
          refine c_seq ?_
          refine c_reg ?_
          refine mv (.pointer _) rfl ?_
          refine nlc rfl ?_
          refine fad rfl Tryd.underlying56 rfl ty4.sz ?_
          refine ldp 2 2 _ rfl rfl rfl rfl ty4 ?_
          refine mv (.bool _) rfl ?_
          refine g_on rfl rfl rfl ?_
          refine mv (.pointer _) rfl ?_
          refine g_on rfl rfl rfl ?_
          refine nlc rfl ?_
          refine g_on rfl rfl rfl ?_
          refine fad rfl Tryd.underlying56 rfl ty3.sz ?_
          refine g_on rfl rfl rfl ?_
          refine ldp 2 1 _ rfl rfl rfl rfl ty3 ?_
          refine g_on rfl rfl rfl ?_
          refine mv (.string _) rfl ?_
          refine g_on rfl rfl rfl ?_
          refine lenT (s := s) rfl Tryd.underlying9 ?_
          refine g_on rfl rfl rfl ?_
          refine cmp _ rfl rfl rfl ?_
          refine pkf (.bool _) rfl rfl ?_
          refine jt ?_
          refine c_cond rfl (fun h6 => ?_) (fun h6 => ?_)
          · replace h6 := of_decide_eq_true h6
            refine c_seq ?_
            refine c_dr [_, _, _, _, _, _, _] [] [(0, 0), (1, 0), (2, 0), (3, 0), (4, 0), (5, 1), (6, 0), (7, 0)] follows (by kernel_rfl) calm_body (keepS [1, 2, 3, 4, 5, 6, 7] rfl) ?_
            refine bld [pt (0 : Int), pt ([] : Str), p1 (.slice none 0 0), pt (⟨0⟩ : F64), pt (⟨0⟩ : F64), pt (0 : UInt64), pt (zarr : (Arr UInt8 32))] [] _ Tryd.underlying30 (lay30 _ Tryd.underlying30) z30 rfl rfl rfl ?_
            refine mv (.pointer _) rfl ?_
            refine nlc rfl ?_
            refine fad rfl Tryd.underlying56 rfl ty3.sz ?_
            refine ldp 1 1 _ rfl rfl rfl rfl ty3 ?_
            refine stw 0 _ [pt (0 : Int), pt ([] : Str), p1 (.slice none 0 0), pt (⟨0⟩ : F64), pt (⟨0⟩ : F64), pt (0 : UInt64), pt (zarr : (Arr UInt8 32))] rfl rfl rfl rfl ty30 ⟨keepI [1, 2, 3, 4, 5, 6, 7] rfl, ?_⟩
            refine asg (.int _ _) rfl ?_
            refine asg (.int _ _) rfl ?_
            refine jt ?_
            refine c_ret ?_
            exact j_end (own0 := []) (ro0 := [tPow10 3, tDb64 8, tIf 5 eu ev, tIf 6 ru rv]) (.inl rfl) rfl (hr3 Tryd.results12 (rvc (p := pa [pt (0 : Int), pt ([] : Str), p1 (.slice none 0 0), pt (⟨0⟩ : F64), pt (⟨0⟩ : F64), pt (0 : UInt64), pt (zarr : (Arr UInt8 32))]) 0 rfl rfl rfl ty30) (rvt (v := (.int _ _)) rfl) (rvt (v := (.int _ _)) rfl)) [] [0, 1, 2, 3] [] [_, _, _, _] [] _ rfl rfl (by kernel_rfl) rfl impl_nil (.inr ⟨_, parse_read_e (by assumption) hmk3 (by omega), rfl, rfl, rfl⟩)
          · replace h6 := of_decide_eq_false h6
            refine c_skip ?_
            refine e_then ?_
            refine c_seq ?_
            refine c_reg ?_
            refine ldw 1 _ rfl rfl ty30 ?_
            refine stw 0 _ [pt (2 : Int), pt ([] : Str), p1 (.slice mo3.adr mm3.length mo3.cap), pt (⟨0⟩ : F64), pt (⟨0⟩ : F64), pt (2 : UInt64), pt (zarr : (Arr UInt8 32))] rfl rfl rfl rfl ty30 ⟨trivial, ?_⟩
            refine asg (.int _ _) rfl ?_
            refine asg (.int _ _) rfl ?_
            refine jt ?_
            refine c_ret ?_
            exact j_end (own0 := []) (ro0 := [tPow10 3, tDb64 8, tIf 5 eu ev, tIf 6 ru rv]) (.inl rfl) rfl (hr3 Tryd.results12 (rvc (p := pa [pt (2 : Int), pt ([] : Str), p1 (.slice mo3.adr mm3.length mo3.cap), pt (⟨0⟩ : F64), pt (⟨0⟩ : F64), pt (2 : UInt64), pt (zarr : (Arr UInt8 32))]) 0 rfl rfl rfl ty30) (rvt (v := (.int _ _)) rfl) (rvt (v := (.int _ _)) rfl)) [3] [0, 1, 2] [_] [_, _, _] [] _ rfl rfl (by kernel_rfl) rfl impl_nil (.inl ⟨(⟨(2 : Int), ([] : Str), (⟨0⟩ : F64), (⟨0⟩ : F64), (2 : UInt64), (zarr : (Arr UInt8 32))⟩ : Con), mm3, mo3, _, (by have h := parse_read (by assumption) hmk3 (by omega); exact h), by omega, hmk3o, rfl, rfl, rfl⟩)
        · refine ⟨trivial, ?_⟩
          refine fad rfl Tryd.underlying30 rfl ty3.sz ?_
          refine stp 1 0 _ (pt (2 : Int)) rfl rfl rfl rfl rfl rfl ty3 ⟨trivial, ?_⟩
          refine fad rfl Tryd.underlying30 rfl ty23.sz ?_
          refine stp 1 5 _ (pt (2 : UInt64)) rfl rfl rfl rfl rfl rfl ty23 ⟨trivial, ?_⟩
          refine fad rfl Tryd.underlying30 rfl ty22.sz ?_
          refine stp 1 2 _ (p1 (.slice mo3.adr mm3.length mo3.cap)) rfl rfl rfl rfl rfl rfl ty22 ⟨trivial, ?_⟩
          refine jn ?_
          refine e_in ?_
          refine e_then ?_
          refine c_seq ?_
          refine c_seq ?_
          refine c_reg ?_
          refine mv (.pointer _) rfl ?_
          refine nlc rfl ?_
          refine fad rfl Tryd.underlying56 rfl ty4.sz ?_
          refine ldp 2 2 _ rfl rfl rfl rfl ty4 ?_
          refine mv (.bool _) rfl ?_
          refine g_off rfl rfl rfl rfl ?_
          refine g_off rfl rfl rfl rfl ?_
          refine g_off rfl rfl rfl rfl ?_
          refine g_off rfl rfl rfl rfl ?_
          refine g_off rfl rfl rfl rfl ?_
          refine g_off rfl rfl rfl rfl ?_
          refine g_off rfl rfl rfl rfl ?_
          refine pkt (.bool _) rfl rfl ?_
          refine jt ?_
          refine c_true rfl ?_
          refine c_seq ?_
          refine c_dr [_, _, _, _, _, _, _] [] [(0, 0), (1, 0), (2, 0), (3, 0), (4, 0), (5, 1), (6, 0), (7, 0)] follows (by kernel_rfl) calm_body (keepS [1, 2, 3, 4, 5, 6, 7] rfl) ?_
          refine bld [pt (0 : Int), pt ([] : Str), p1 (.slice none 0 0), pt (⟨0⟩ : F64), pt (⟨0⟩ : F64), pt (0 : UInt64), pt (zarr : (Arr UInt8 32))] [] _ Tryd.underlying30 (lay30 _ Tryd.underlying30) z30 rfl rfl rfl ?_
          refine mv (.pointer _) rfl ?_
          refine nlc rfl ?_
          refine fad rfl Tryd.underlying56 rfl ty3.sz ?_
          refine ldp 1 1 _ rfl rfl rfl rfl ty3 ?_
          refine stw 0 _ [pt (0 : Int), pt ([] : Str), p1 (.slice none 0 0), pt (⟨0⟩ : F64), pt (⟨0⟩ : F64), pt (0 : UInt64), pt (zarr : (Arr UInt8 32))] rfl rfl rfl rfl ty30 ⟨keepI [1, 2, 3, 4, 5, 6, 7] rfl, ?_⟩
          refine asg (.int _ _) rfl ?_
          refine asg (.int _ _) rfl ?_
          refine jt ?_
          refine c_ret ?_
          exact j_end (own0 := []) (ro0 := [tPow10 3, tDb64 8, tIf 5 eu ev, tIf 6 ru rv]) (.inl rfl) rfl (hr3 Tryd.results12 (rvc (p := pa [pt (0 : Int), pt ([] : Str), p1 (.slice none 0 0), pt (⟨0⟩ : F64), pt (⟨0⟩ : F64), pt (0 : UInt64), pt (zarr : (Arr UInt8 32))]) 0 rfl rfl rfl ty30) (rvt (v := (.int _ _)) rfl) (rvt (v := (.int _ _)) rfl)) [] [0, 1, 2, 3] [] [_, _, _, _] [] _ rfl rfl (by kernel_rfl) rfl impl_nil (.inr ⟨_, parse_read_f0 (by assumption) hmk3, rfl, rfl, rfl⟩)
      · replace h5 := of_decide_eq_false h5
        refine c_seq ?_
        refine c_reg ?_
        refine scmp (a := (word s 0)) (b := ([112, 108, 97, 99, 101] : Str)) _ rfl rfl Tryd.underlying9 rfl ?_
        refine asg (.bool _) rfl ?_
        refine jt ?_
        refine c_cond rfl (fun h7 => ?_) (fun h7 => ?_)
        · replace h7 := of_decide_eq_true h7
          refine c_seq ?_
          refine c_reg ?_
          refine mv (.pointer _) rfl ?_
          refine cal (degrees_ct b10 s ((word s 0).length) (by omega) (by omega) (⟨4636033603912859648⟩ : F64)) [1] [0, 2] [_, _] rfl rfl rfl (by kernel_rfl) impl_nil rfl ?_; rintro _ _ _ (⟨df4, dq4, hdg4, rfl, rfl, rfl⟩ | ⟨df4, dq4, hdg4, hdg4b, rfl, rfl, rfl⟩)
          · have hdg4b := degR_next hdg4; refine ⟨trivial, ?_⟩
            refine fad rfl Tryd.underlying30 rfl ty3.sz ?_
            refine stp 1 0 _ (pt (3 : Int)) rfl rfl rfl rfl rfl rfl ty3 ⟨trivial, ?_⟩
            refine fad rfl Tryd.underlying30 rfl ty28.sz ?_
            refine stp 1 3 _ (pt df4) rfl rfl rfl rfl rfl rfl ty28 ⟨trivial, ?_⟩
            refine jt ?_
            refine c_seq ?_
            refine c_reg ?_
            refine mv (.pointer _) rfl ?_
            refine cal (degrees_ct b10 s dq4 (by omega) (by omega) (⟨4640537203540230144⟩ : F64)) [2] [0, 1] [_, _] rfl rfl rfl (by kernel_rfl) impl_nil rfl ?_; rintro _ _ _ (⟨df5, dq5, hdg5, rfl, rfl, rfl⟩ | ⟨df5, dq5, hdg5, hdg5b, rfl, rfl, rfl⟩)
            · have hdg5b := degR_next hdg5; refine ⟨trivial, ?_⟩
              refine fad rfl Tryd.underlying30 rfl ty28.sz ?_
              refine stp 1 4 _ (pt df5) rfl rfl rfl rfl rfl rfl ty28 ⟨trivial, ?_⟩
              refine jt ?_
              refine c_reg ?_
              refine mv (.pointer _) rfl ?_
              refine cal (text_rct b10 s dq5 (by omega) (by omega) 0 200 (by omega) (by omega) eu ev ru rv) [2] [0, 1] [_, _] rfl rfl rfl (by kernel_rfl) (impl_cons (impl_at 1 rfl) (impl_cons (impl_at 2 rfl) (impl_cons (impl_at 3 rfl) impl_nil))) rfl ?_; rintro _ _ _ (⟨tt6, tq6, htx6, rfl, rfl, rfl⟩ | ⟨tt6, tq6, htx6, htx6b, rfl, rfl, rfl⟩)
              · have htx6b := textR_next htx6; refine ⟨trivial, ?_⟩
                refine fad rfl Tryd.underlying30 rfl ty9.sz ?_
                refine stp 1 1 _ (pt tt6) rfl rfl rfl rfl rfl rfl ty9 ⟨trivial, ?_⟩
                refine jn ?_
                refine e_in ?_
                refine e_then ?_
                refine c_seq ?_
                refine c_seq ?_
                refine c_reg ?_
                refine mv (.pointer _) rfl ?_
                refine nlc rfl ?_
                refine fad rfl Tryd.underlying56 rfl ty4.sz ?_
                refine ldp 2 2 _ rfl rfl rfl rfl ty4 ?_
                refine mv (.bool _) rfl ?_
                refine g_on rfl rfl rfl ?_
                refine mv (.pointer _) rfl ?_
                refine g_on rfl rfl rfl ?_
                refine nlc rfl ?_
                refine g_on rfl rfl rfl ?_
                refine fad rfl Tryd.underlying56 rfl ty3.sz ?_
                refine g_on rfl rfl rfl ?_
                refine ldp 2 1 _ rfl rfl rfl rfl ty3 ?_
                refine g_on rfl rfl rfl ?_
                refine mv (.string _) rfl ?_
                refine g_on rfl rfl rfl ?_
                refine lenT (s := s) rfl Tryd.underlying9 ?_
                refine g_on rfl rfl rfl ?_
                refine cmp _ rfl rfl rfl ?_
                refine pkf (.bool _) rfl rfl ?_
                refine jt ?_
                refine c_cond rfl (fun h8 => ?_) (fun h8 => ?_)
                · replace h8 := of_decide_eq_true h8
                  refine c_seq ?_
                  refine c_dr [_, _, _, _, _, _] [] [(0, 0), (1, 0), (2, 0), (3, 0), (4, 0), (5, 1), (6, 0), (7, 0)] follows (by kernel_rfl) calm_body (keepS [1, 2, 3, 4, 5, 6] rfl) ?_
                  refine bld [pt (0 : Int), pt ([] : Str), p1 (.slice none 0 0), pt (⟨0⟩ : F64), pt (⟨0⟩ : F64), pt (0 : UInt64), pt (zarr : (Arr UInt8 32))] [] _ Tryd.underlying30 (lay30 _ Tryd.underlying30) z30 rfl rfl rfl ?_
                  refine mv (.pointer _) rfl ?_
                  refine nlc rfl ?_
                  refine fad rfl Tryd.underlying56 rfl ty3.sz ?_
                  refine ldp 1 1 _ rfl rfl rfl rfl ty3 ?_
                  refine stw 0 _ [pt (0 : Int), pt ([] : Str), p1 (.slice none 0 0), pt (⟨0⟩ : F64), pt (⟨0⟩ : F64), pt (0 : UInt64), pt (zarr : (Arr UInt8 32))] rfl rfl rfl rfl ty30 ⟨keepI [1, 2, 3, 4, 5, 6] rfl, ?_⟩
                  refine asg (.int _ _) rfl ?_
                  refine asg (.int _ _) rfl ?_
                  refine jt ?_
                  refine c_ret ?_
                  exact j_end (own0 := []) (ro0 := [tPow10 3, tDb64 8, tIf 5 eu ev, tIf 6 ru rv]) (.inl rfl) rfl (hr3 Tryd.results12 (rvc (p := pa [pt (0 : Int), pt ([] : Str), p1 (.slice none 0 0), pt (⟨0⟩ : F64), pt (⟨0⟩ : F64), pt (0 : UInt64), pt (zarr : (Arr UInt8 32))]) 0 rfl rfl rfl ty30) (rvt (v := (.int _ _)) rfl) (rvt (v := (.int _ _)) rfl)) [] [0, 1, 2] [] [_, _, _] [] _ rfl rfl (by kernel_rfl) rfl impl_nil (.inr ⟨_, parse_place_e (by assumption) hdg4 hdg5 htx6 (by omega), rfl, rfl, rfl⟩)
                · replace h8 := of_decide_eq_false h8
                  refine c_skip ?_
                  refine e_then ?_
                  refine c_seq ?_
                  refine c_reg ?_
                  refine ldw 1 _ rfl rfl ty30 ?_
                  refine stw 0 _ [pt (3 : Int), pt tt6, p1 (.slice none 0 0), pt df4, pt df5, pt (0 : UInt64), pt (zarr : (Arr UInt8 32))] rfl rfl rfl rfl ty30 ⟨trivial, ?_⟩
                  refine asg (.int _ _) rfl ?_
                  refine asg (.int _ _) rfl ?_
                  refine jt ?_
                  refine c_ret ?_
                  refine e_addE ?_
                  exact j_end (own0 := []) (ro0 := [tPow10 3, tDb64 8, tIf 5 eu ev, tIf 6 ru rv]) (.inl rfl) rfl (hr3 Tryd.results12 (rvc (p := pa [pt (3 : Int), pt tt6, p1 (.slice none 0 0), pt df4, pt df5, pt (0 : UInt64), pt (zarr : (Arr UInt8 32))]) 0 rfl rfl rfl ty30) (rvt (v := (.int _ _)) rfl) (rvt (v := (.int _ _)) rfl)) [3] [0, 1, 2] [_] [_, _, _] [] _ rfl rfl (by kernel_rfl) rfl impl_nil (.inl ⟨(⟨(3 : Int), tt6, df4, df5, (0 : UInt64), (zarr : (Arr UInt8 32))⟩ : Con), [], Ow.nil, _, (by have h := parse_place (by assumption) hdg4 hdg5 htx6 (by omega); exact h), by simp, Ow.nil_ok, rfl, rfl, rfl⟩)
              · refine ⟨trivial, ?_⟩
                refine fad rfl Tryd.underlying30 rfl ty9.sz ?_
                refine stp 1 1 _ (pt tt6) rfl rfl rfl rfl rfl rfl ty9 ⟨trivial, ?_⟩
                refine jn ?_
                refine e_in ?_
                refine e_then ?_
                refine c_seq ?_
                refine c_seq ?_
                refine c_reg ?_
                refine mv (.pointer _) rfl ?_
                refine nlc rfl ?_
                refine fad rfl Tryd.underlying56 rfl ty4.sz ?_
                refine ldp 2 2 _ rfl rfl rfl rfl ty4 ?_
                refine mv (.bool _) rfl ?_
                refine g_off rfl rfl rfl rfl ?_
                refine g_off rfl rfl rfl rfl ?_
                refine g_off rfl rfl rfl rfl ?_
                refine g_off rfl rfl rfl rfl ?_
                refine g_off rfl rfl rfl rfl ?_
                refine g_off rfl rfl rfl rfl ?_
                refine g_off rfl rfl rfl rfl ?_
                refine pkt (.bool _) rfl rfl ?_
                refine jt ?_
                refine c_true rfl ?_
                refine c_seq ?_
                refine c_dr [_, _, _, _, _, _] [] [(0, 0), (1, 0), (2, 0), (3, 0), (4, 0), (5, 1), (6, 0), (7, 0)] follows (by kernel_rfl) calm_body (keepS [1, 2, 3, 4, 5, 6] rfl) ?_
                refine bld [pt (0 : Int), pt ([] : Str), p1 (.slice none 0 0), pt (⟨0⟩ : F64), pt (⟨0⟩ : F64), pt (0 : UInt64), pt (zarr : (Arr UInt8 32))] [] _ Tryd.underlying30 (lay30 _ Tryd.underlying30) z30 rfl rfl rfl ?_
                refine mv (.pointer _) rfl ?_
                refine nlc rfl ?_
                refine fad rfl Tryd.underlying56 rfl ty3.sz ?_
                refine ldp 1 1 _ rfl rfl rfl rfl ty3 ?_
                refine stw 0 _ [pt (0 : Int), pt ([] : Str), p1 (.slice none 0 0), pt (⟨0⟩ : F64), pt (⟨0⟩ : F64), pt (0 : UInt64), pt (zarr : (Arr UInt8 32))] rfl rfl rfl rfl ty30 ⟨keepI [1, 2, 3, 4, 5, 6] rfl, ?_⟩
                refine asg (.int _ _) rfl ?_
                refine asg (.int _ _) rfl ?_
                refine jt ?_
                refine c_ret ?_
                exact j_end (own0 := []) (ro0 := [tPow10 3, tDb64 8, tIf 5 eu ev, tIf 6 ru rv]) (.inl rfl) rfl (hr3 Tryd.results12 (rvc (p := pa [pt (0 : Int), pt ([] : Str), p1 (.slice none 0 0), pt (⟨0⟩ : F64), pt (⟨0⟩ : F64), pt (0 : UInt64), pt (zarr : (Arr UInt8 32))]) 0 rfl rfl rfl ty30) (rvt (v := (.int _ _)) rfl) (rvt (v := (.int _ _)) rfl)) [] [0, 1, 2] [] [_, _, _] [] _ rfl rfl (by kernel_rfl) rfl impl_nil (.inr ⟨_, parse_place_f2 (by assumption) hdg4 hdg5 htx6, rfl, rfl, rfl⟩)
            · refine ⟨trivial, ?_⟩
              refine fad rfl Tryd.underlying30 rfl ty28.sz ?_
              refine stp 1 4 _ (pt df5) rfl rfl rfl rfl rfl rfl ty28 ⟨trivial, ?_⟩
              refine jt ?_
              refine c_reg ?_
              refine mv (.pointer _) rfl ?_
              refine cal (text_bad b10 s dq5 (by omega) (by omega) 0 200 (by omega) (by omega)) [2] [0, 1] [_, _] rfl rfl rfl (by kernel_rfl) impl_nil rfl ?_; rintro _ _ _ ⟨rfl, rfl, rfl⟩; refine ⟨trivial, ?_⟩
              refine fad rfl Tryd.underlying30 rfl ty9.sz ?_
              refine stp 1 1 _ (pt ([] : Str)) rfl rfl rfl rfl rfl rfl ty9 ⟨trivial, ?_⟩
              refine jn ?_
              refine e_in ?_
              refine e_then ?_
              refine c_seq ?_
              refine c_seq ?_
              refine c_reg ?_
              refine mv (.pointer _) rfl ?_
              refine nlc rfl ?_
              refine fad rfl Tryd.underlying56 rfl ty4.sz ?_
              refine ldp 2 2 _ rfl rfl rfl rfl ty4 ?_
              refine mv (.bool _) rfl ?_
              refine g_off rfl rfl rfl rfl ?_
              refine g_off rfl rfl rfl rfl ?_
              refine g_off rfl rfl rfl rfl ?_
              refine g_off rfl rfl rfl rfl ?_
              refine g_off rfl rfl rfl rfl ?_
              refine g_off rfl rfl rfl rfl ?_
              refine g_off rfl rfl rfl rfl ?_
              refine pkt (.bool _) rfl rfl ?_
              refine jt ?_
              refine c_true rfl ?_
              refine c_seq ?_
              refine c_dr [_, _, _, _, _, _] [] [(0, 0), (1, 0), (2, 0), (3, 0), (4, 0), (5, 1), (6, 0), (7, 0)] follows (by kernel_rfl) calm_body (keepS [1, 2, 3, 4, 5, 6] rfl) ?_
              refine bld [pt (0 : Int), pt ([] : Str), p1 (.slice none 0 0), pt (⟨0⟩ : F64), pt (⟨0⟩ : F64), pt (0 : UInt64), pt (zarr : (Arr UInt8 32))] [] _ Tryd.underlying30 (lay30 _ Tryd.underlying30) z30 rfl rfl rfl ?_
              refine mv (.pointer _) rfl ?_
              refine nlc rfl ?_
              refine fad rfl Tryd.underlying56 rfl ty3.sz ?_
              refine ldp 1 1 _ rfl rfl rfl rfl ty3 ?_
              refine stw 0 _ [pt (0 : Int), pt ([] : Str), p1 (.slice none 0 0), pt (⟨0⟩ : F64), pt (⟨0⟩ : F64), pt (0 : UInt64), pt (zarr : (Arr UInt8 32))] rfl rfl rfl rfl ty30 ⟨keepI [1, 2, 3, 4, 5, 6] rfl, ?_⟩
              refine asg (.int _ _) rfl ?_
              refine asg (.int _ _) rfl ?_
              refine jt ?_
              refine c_ret ?_
              exact j_end (own0 := []) (ro0 := [tPow10 3, tDb64 8, tIf 5 eu ev, tIf 6 ru rv]) (.inl rfl) rfl (hr3 Tryd.results12 (rvc (p := pa [pt (0 : Int), pt ([] : Str), p1 (.slice none 0 0), pt (⟨0⟩ : F64), pt (⟨0⟩ : F64), pt (0 : UInt64), pt (zarr : (Arr UInt8 32))]) 0 rfl rfl rfl ty30) (rvt (v := (.int _ _)) rfl) (rvt (v := (.int _ _)) rfl)) [] [0, 1, 2] [] [_, _, _] [] _ rfl rfl (by kernel_rfl) rfl impl_nil (.inr ⟨_, parse_place_f1 (by assumption) hdg4 hdg5, rfl, rfl, rfl⟩)
          · refine ⟨trivial, ?_⟩
            refine fad rfl Tryd.underlying30 rfl ty3.sz ?_
            refine stp 1 0 _ (pt (3 : Int)) rfl rfl rfl rfl rfl rfl ty3 ⟨trivial, ?_⟩
            refine fad rfl Tryd.underlying30 rfl ty28.sz ?_
            refine stp 1 3 _ (pt df4) rfl rfl rfl rfl rfl rfl ty28 ⟨trivial, ?_⟩
            refine jt ?_
            refine c_seq ?_
            refine c_reg ?_
            refine mv (.pointer _) rfl ?_
            refine cal (degrees_bad b10 s dq4 (by omega) (by omega) (⟨4640537203540230144⟩ : F64)) [2] [0, 1] [_, _] rfl rfl rfl (by kernel_rfl) impl_nil rfl ?_; rintro _ _ _ ⟨df8, rfl, rfl, rfl⟩; refine ⟨trivial, ?_⟩
            refine fad rfl Tryd.underlying30 rfl ty28.sz ?_
            refine stp 1 4 _ (pt df8) rfl rfl rfl rfl rfl rfl ty28 ⟨trivial, ?_⟩
            refine jt ?_
            refine c_reg ?_
            refine mv (.pointer _) rfl ?_
            refine cal (text_bad b10 s dq4 (by omega) (by omega) 0 200 (by omega) (by omega)) [2] [0, 1] [_, _] rfl rfl rfl (by kernel_rfl) impl_nil rfl ?_; rintro _ _ _ ⟨rfl, rfl, rfl⟩; refine ⟨trivial, ?_⟩
            refine fad rfl Tryd.underlying30 rfl ty9.sz ?_
            refine stp 1 1 _ (pt ([] : Str)) rfl rfl rfl rfl rfl rfl ty9 ⟨trivial, ?_⟩
            refine jn ?_
            refine e_in ?_
            refine e_then ?_
            refine c_seq ?_
            refine c_seq ?_
            refine c_reg ?_
            refine mv (.pointer _) rfl ?_
            refine nlc rfl ?_
            refine fad rfl Tryd.underlying56 rfl ty4.sz ?_
            refine ldp 2 2 _ rfl rfl rfl rfl ty4 ?_
            refine mv (.bool _) rfl ?_
            refine g_off rfl rfl rfl rfl ?_
            refine g_off rfl rfl rfl rfl ?_
            refine g_off rfl rfl rfl rfl ?_
            refine g_off rfl rfl rfl rfl ?_
            refine g_off rfl rfl rfl rfl ?_
            refine g_off rfl rfl rfl rfl ?_
            refine g_off rfl rfl rfl rfl ?_
            refine pkt (.bool _) rfl rfl ?_
            refine jt ?_
            refine c_true rfl ?_
            refine c_seq ?_
            refine c_dr [_, _, _, _, _, _] [] [(0, 0), (1, 0), (2, 0), (3, 0), (4, 0), (5, 1), (6, 0), (7, 0)] follows (by kernel_rfl) calm_body (keepS [1, 2, 3, 4, 5, 6] rfl) ?_
            refine bld [pt (0 : Int), pt ([] : Str), p1 (.slice none 0 0), pt (⟨0⟩ : F64), pt (⟨0⟩ : F64), pt (0 : UInt64), pt (zarr : (Arr UInt8 32))] [] _ Tryd.underlying30 (lay30 _ Tryd.underlying30) z30 rfl rfl rfl ?_
            refine mv (.pointer _) rfl ?_
            refine nlc rfl ?_
            refine fad rfl Tryd.underlying56 rfl ty3.sz ?_
            refine ldp 1 1 _ rfl rfl rfl rfl ty3 ?_
            refine stw 0 _ [pt (0 : Int), pt ([] : Str), p1 (.slice none 0 0), pt (⟨0⟩ : F64), pt (⟨0⟩ : F64), pt (0 : UInt64), pt (zarr : (Arr UInt8 32))] rfl rfl rfl rfl ty30 ⟨keepI [1, 2, 3, 4, 5, 6] rfl, ?_⟩
            refine asg (.int _ _) rfl ?_
            refine asg (.int _ _) rfl ?_
            refine jt ?_
            refine c_ret ?_
            exact j_end (own0 := []) (ro0 := [tPow10 3, tDb64 8, tIf 5 eu ev, tIf 6 ru rv]) (.inl rfl) rfl (hr3 Tryd.results12 (rvc (p := pa [pt (0 : Int), pt ([] : Str), p1 (.slice none 0 0), pt (⟨0⟩ : F64), pt (⟨0⟩ : F64), pt (0 : UInt64), pt (zarr : (Arr UInt8 32))]) 0 rfl rfl rfl ty30) (rvt (v := (.int _ _)) rfl) (rvt (v := (.int _ _)) rfl)) [] [0, 1, 2] [] [_, _, _] [] _ rfl rfl (by kernel_rfl) rfl impl_nil (.inr ⟨_, parse_place_f0 (by assumption) hdg4, rfl, rfl, rfl⟩)
        · replace h7 := of_decide_eq_false h7
          refine c_seq ?_
          refine c_reg ?_
          refine scmp (a := (word s 0)) (b := ([114, 101, 97, 99, 116] : Str)) _ rfl rfl Tryd.underlying9 rfl ?_
          refine asg (.bool _) rfl ?_
          refine jt ?_
          refine c_cond rfl (fun h9 => ?_) (fun h9 => ?_)
          · replace h9 := of_decide_eq_true h9
            refine c_seq ?_
            refine c_reg ?_
            refine mv (.pointer _) rfl ?_
            refine cal (number_ct b10 s ((word s 0).length) (by omega) (by omega) (0 : UInt64) (4294967295 : UInt64) eu ev ru rv) [1] [0, 2] [_, _] rfl rfl rfl (by kernel_rfl) (impl_cons (impl_at 0 rfl) (impl_cons (impl_at 2 rfl) (impl_cons (impl_at 3 rfl) impl_nil))) rfl ?_; rintro _ _ _ (⟨nn10, nq10, hnm10, rfl, rfl, rfl⟩ | ⟨nn10, nq10, hnm10, hnm10b, rfl, rfl, rfl⟩)
            · have hnm10b := numR_next hnm10; refine ⟨trivial, ?_⟩
              refine fad rfl Tryd.underlying30 rfl ty3.sz ?_
              refine stp 1 0 _ (pt (4 : Int)) rfl rfl rfl rfl rfl rfl ty3 ⟨trivial, ?_⟩
              refine fad rfl Tryd.underlying30 rfl ty23.sz ?_
              refine stp 1 5 _ (pt nn10) rfl rfl rfl rfl rfl rfl ty23 ⟨trivial, ?_⟩
              refine jt ?_
              refine c_reg ?_
              refine mv (.pointer _) rfl ?_
              refine cal (text_rct b10 s nq10 (by omega) (by omega) 1 64 (by omega) (by omega) eu ev ru rv) [2] [0, 1] [_, _] rfl rfl rfl (by kernel_rfl) (impl_cons (impl_at 1 rfl) (impl_cons (impl_at 2 rfl) (impl_cons (impl_at 3 rfl) impl_nil))) rfl ?_; rintro _ _ _ (⟨tt11, tq11, htx11, rfl, rfl, rfl⟩ | ⟨tt11, tq11, htx11, htx11b, rfl, rfl, rfl⟩)
              · have htx11b := textR_next htx11; refine ⟨trivial, ?_⟩
                refine fad rfl Tryd.underlying30 rfl ty9.sz ?_
                refine stp 1 1 _ (pt tt11) rfl rfl rfl rfl rfl rfl ty9 ⟨trivial, ?_⟩
                refine jn ?_
                refine e_in ?_
                refine e_then ?_
                refine c_seq ?_
                refine c_seq ?_
                refine c_reg ?_
                refine mv (.pointer _) rfl ?_
                refine nlc rfl ?_
                refine fad rfl Tryd.underlying56 rfl ty4.sz ?_
                refine ldp 2 2 _ rfl rfl rfl rfl ty4 ?_
                refine mv (.bool _) rfl ?_
                refine g_on rfl rfl rfl ?_
                refine mv (.pointer _) rfl ?_
                refine g_on rfl rfl rfl ?_
                refine nlc rfl ?_
                refine g_on rfl rfl rfl ?_
                refine fad rfl Tryd.underlying56 rfl ty3.sz ?_
                refine g_on rfl rfl rfl ?_
                refine ldp 2 1 _ rfl rfl rfl rfl ty3 ?_
                refine g_on rfl rfl rfl ?_
                refine mv (.string _) rfl ?_
                refine g_on rfl rfl rfl ?_
                refine lenT (s := s) rfl Tryd.underlying9 ?_
                refine g_on rfl rfl rfl ?_
                refine cmp _ rfl rfl rfl ?_
                refine pkf (.bool _) rfl rfl ?_
                refine jt ?_
                refine c_cond rfl (fun h10 => ?_) (fun h10 => ?_)
                · replace h10 := of_decide_eq_true h10
                  refine c_seq ?_
                  refine c_dr [_, _, _, _, _, _] [] [(0, 0), (1, 0), (2, 0), (3, 0), (4, 0), (5, 1), (6, 0), (7, 0)] follows (by kernel_rfl) calm_body (keepS [1, 2, 3, 4, 5, 6] rfl) ?_
                  refine bld [pt (0 : Int), pt ([] : Str), p1 (.slice none 0 0), pt (⟨0⟩ : F64), pt (⟨0⟩ : F64), pt (0 : UInt64), pt (zarr : (Arr UInt8 32))] [] _ Tryd.underlying30 (lay30 _ Tryd.underlying30) z30 rfl rfl rfl ?_
                  refine mv (.pointer _) rfl ?_
                  refine nlc rfl ?_
                  refine fad rfl Tryd.underlying56 rfl ty3.sz ?_
                  refine ldp 1 1 _ rfl rfl rfl rfl ty3 ?_
                  refine stw 0 _ [pt (0 : Int), pt ([] : Str), p1 (.slice none 0 0), pt (⟨0⟩ : F64), pt (⟨0⟩ : F64), pt (0 : UInt64), pt (zarr : (Arr UInt8 32))] rfl rfl rfl rfl ty30 ⟨keepI [1, 2, 3, 4, 5, 6] rfl, ?_⟩
                  refine asg (.int _ _) rfl ?_
                  refine asg (.int _ _) rfl ?_
                  refine jt ?_
                  refine c_ret ?_
                  exact j_end (own0 := []) (ro0 := [tPow10 3, tDb64 8, tIf 5 eu ev, tIf 6 ru rv]) (.inl rfl) rfl (hr3 Tryd.results12 (rvc (p := pa [pt (0 : Int), pt ([] : Str), p1 (.slice none 0 0), pt (⟨0⟩ : F64), pt (⟨0⟩ : F64), pt (0 : UInt64), pt (zarr : (Arr UInt8 32))]) 0 rfl rfl rfl ty30) (rvt (v := (.int _ _)) rfl) (rvt (v := (.int _ _)) rfl)) [] [0, 1, 2] [] [_, _, _] [] _ rfl rfl (by kernel_rfl) rfl impl_nil (.inr ⟨_, parse_react_e (by assumption) hnm10 htx11 (by omega), rfl, rfl, rfl⟩)
                · replace h10 := of_decide_eq_false h10
                  refine c_skip ?_
                  refine e_then ?_
                  refine c_seq ?_
                  refine c_reg ?_
                  refine ldw 1 _ rfl rfl ty30 ?_
                  refine stw 0 _ [pt (4 : Int), pt tt11, p1 (.slice none 0 0), pt (⟨0⟩ : F64), pt (⟨0⟩ : F64), pt nn10, pt (zarr : (Arr UInt8 32))] rfl rfl rfl rfl ty30 ⟨trivial, ?_⟩
                  refine asg (.int _ _) rfl ?_
                  refine asg (.int _ _) rfl ?_
                  refine jt ?_
                  refine c_ret ?_
                  refine e_addE ?_
                  exact j_end (own0 := []) (ro0 := [tPow10 3, tDb64 8, tIf 5 eu ev, tIf 6 ru rv]) (.inl rfl) rfl (hr3 Tryd.results12 (rvc (p := pa [pt (4 : Int), pt tt11, p1 (.slice none 0 0), pt (⟨0⟩ : F64), pt (⟨0⟩ : F64), pt nn10, pt (zarr : (Arr UInt8 32))]) 0 rfl rfl rfl ty30) (rvt (v := (.int _ _)) rfl) (rvt (v := (.int _ _)) rfl)) [3] [0, 1, 2] [_] [_, _, _] [] _ rfl rfl (by kernel_rfl) rfl impl_nil (.inl ⟨(⟨(4 : Int), tt11, (⟨0⟩ : F64), (⟨0⟩ : F64), nn10, (zarr : (Arr UInt8 32))⟩ : Con), [], Ow.nil, _, (by have h := parse_react (by assumption) hnm10 htx11 (by omega); rw [UInt64.ofNat_toNat] at h; exact h), by simp, Ow.nil_ok, rfl, rfl, rfl⟩)
              · refine ⟨trivial, ?_⟩
                refine fad rfl Tryd.underlying30 rfl ty9.sz ?_
                refine stp 1 1 _ (pt tt11) rfl rfl rfl rfl rfl rfl ty9 ⟨trivial, ?_⟩
                refine jn ?_
                refine e_in ?_
                refine e_then ?_
                refine c_seq ?_
                refine c_seq ?_
                refine c_reg ?_
                refine mv (.pointer _) rfl ?_
                refine nlc rfl ?_
                refine fad rfl Tryd.underlying56 rfl ty4.sz ?_
                refine ldp 2 2 _ rfl rfl rfl rfl ty4 ?_
                refine mv (.bool _) rfl ?_
                refine g_off rfl rfl rfl rfl ?_
                refine g_off rfl rfl rfl rfl ?_
                refine g_off rfl rfl rfl rfl ?_
                refine g_off rfl rfl rfl rfl ?_
                refine g_off rfl rfl rfl rfl ?_
                refine g_off rfl rfl rfl rfl ?_
                refine g_off rfl rfl rfl rfl ?_
                refine pkt (.bool _) rfl rfl ?_
                refine jt ?_
                refine c_true rfl ?_
                refine c_seq ?_
                refine c_dr [_, _, _, _, _, _] [] [(0, 0), (1, 0), (2, 0), (3, 0), (4, 0), (5, 1), (6, 0), (7, 0)] follows (by kernel_rfl) calm_body (keepS [1, 2, 3, 4, 5, 6] rfl) ?_
                refine bld [pt (0 : Int), pt ([] : Str), p1 (.slice none 0 0), pt (⟨0⟩ : F64), pt (⟨0⟩ : F64), pt (0 : UInt64), pt (zarr : (Arr UInt8 32))] [] _ Tryd.underlying30 (lay30 _ Tryd.underlying30) z30 rfl rfl rfl ?_
                refine mv (.pointer _) rfl ?_
                refine nlc rfl ?_
                refine fad rfl Tryd.underlying56 rfl ty3.sz ?_
                refine ldp 1 1 _ rfl rfl rfl rfl ty3 ?_
                refine stw 0 _ [pt (0 : Int), pt ([] : Str), p1 (.slice none 0 0), pt (⟨0⟩ : F64), pt (⟨0⟩ : F64), pt (0 : UInt64), pt (zarr : (Arr UInt8 32))] rfl rfl rfl rfl ty30 ⟨keepI [1, 2, 3, 4, 5, 6] rfl, ?_⟩
                refine asg (.int _ _) rfl ?_
                refine asg (.int _ _) rfl ?_
                refine jt ?_
                refine c_ret ?_
                exact j_end (own0 := []) (ro0 := [tPow10 3, tDb64 8, tIf 5 eu ev, tIf 6 ru rv]) (.inl rfl) rfl (hr3 Tryd.results12 (rvc (p := pa [pt (0 : Int), pt ([] : Str), p1 (.slice none 0 0), pt (⟨0⟩ : F64), pt (⟨0⟩ : F64), pt (0 : UInt64), pt (zarr : (Arr UInt8 32))]) 0 rfl rfl rfl ty30) (rvt (v := (.int _ _)) rfl) (rvt (v := (.int _ _)) rfl)) [] [0, 1, 2] [] [_, _, _] [] _ rfl rfl (by kernel_rfl) rfl impl_nil (.inr ⟨_, parse_react_f1 (by assumption) hnm10 htx11, rfl, rfl, rfl⟩)
            · refine ⟨trivial, ?_⟩
              refine fad rfl Tryd.underlying30 rfl ty3.sz ?_
              refine stp 1 0 _ (pt (4 : Int)) rfl rfl rfl rfl rfl rfl ty3 ⟨trivial, ?_⟩
              refine fad rfl Tryd.underlying30 rfl ty23.sz ?_
              refine stp 1 5 _ (pt nn10) rfl rfl rfl rfl rfl rfl ty23 ⟨trivial, ?_⟩
              refine jt ?_
              refine c_reg ?_
              refine mv (.pointer _) rfl ?_
              refine cal (text_bad b10 s nq10 (by omega) (by omega) 1 64 (by omega) (by omega)) [2] [0, 1] [_, _] rfl rfl rfl (by kernel_rfl) impl_nil rfl ?_; rintro _ _ _ ⟨rfl, rfl, rfl⟩; refine ⟨trivial, ?_⟩
              refine fad rfl Tryd.underlying30 rfl ty9.sz ?_
              refine stp 1 1 _ (pt ([] : Str)) rfl rfl rfl rfl rfl rfl ty9 ⟨trivial, ?_⟩
              refine jn ?_
              refine e_in ?_
              refine e_then ?_
              refine c_seq ?_
              refine c_seq ?_
              refine c_reg ?_
              refine mv (.pointer _) rfl ?_
              refine nlc rfl ?_
              refine fad rfl Tryd.underlying56 rfl ty4.sz ?_
              refine ldp 2 2 _ rfl rfl rfl rfl ty4 ?_
              refine mv (.bool _) rfl ?_
              refine g_off rfl rfl rfl rfl ?_
              refine g_off rfl rfl rfl rfl ?_
              refine g_off rfl rfl rfl rfl ?_
              refine g_off rfl rfl rfl rfl ?_
              refine g_off rfl rfl rfl rfl ?_
              refine g_off rfl rfl rfl rfl ?_
              refine g_off rfl rfl rfl rfl ?_
              refine pkt (.bool _) rfl rfl ?_
              refine jt ?_
              refine c_true rfl ?_
              refine c_seq ?_
              refine c_dr [_, _, _, _, _, _] [] [(0, 0), (1, 0), (2, 0), (3, 0), (4, 0), (5, 1), (6, 0), (7, 0)] follows (by kernel_rfl) calm_body (keepS [1, 2, 3, 4, 5, 6] rfl) ?_
              refine bld [pt (0 : Int), pt ([] : Str), p1 (.slice none 0 0), pt (⟨0⟩ : F64), pt (⟨0⟩ : F64), pt (0 : UInt64), pt (zarr : (Arr UInt8 32))] [] _ Tryd.underlying30 (lay30 _ Tryd.underlying30) z30 rfl rfl rfl ?_
              refine mv (.pointer _) rfl ?_
              refine nlc rfl ?_
              refine fad rfl Tryd.underlying56 rfl ty3.sz ?_
              refine ldp 1 1 _ rfl rfl rfl rfl ty3 ?_
              refine stw 0 _ [pt (0 : Int), pt ([] : Str), p1 (.slice none 0 0), pt (⟨0⟩ : F64), pt (⟨0⟩ : F64), pt (0 : UInt64), pt (zarr : (Arr UInt8 32))] rfl rfl rfl rfl ty30 ⟨keepI [1, 2, 3, 4, 5, 6] rfl, ?_⟩
              refine asg (.int _ _) rfl ?_
              refine asg (.int _ _) rfl ?_
              refine jt ?_
              refine c_ret ?_
              exact j_end (own0 := []) (ro0 := [tPow10 3, tDb64 8, tIf 5 eu ev, tIf 6 ru rv]) (.inl rfl) rfl (hr3 Tryd.results12 (rvc (p := pa [pt (0 : Int), pt ([] : Str), p1 (.slice none 0 0), pt (⟨0⟩ : F64), pt (⟨0⟩ : F64), pt (0 : UInt64), pt (zarr : (Arr UInt8 32))]) 0 rfl rfl rfl ty30) (rvt (v := (.int _ _)) rfl) (rvt (v := (.int _ _)) rfl)) [] [0, 1, 2] [] [_, _, _] [] _ rfl rfl (by kernel_rfl) rfl impl_nil (.inr ⟨_, parse_react_f0 (by assumption) hnm10, rfl, rfl, rfl⟩)
          · replace h9 := of_decide_eq_false h9
            refine c_seq ?_
            refine c_reg ?_
            refine scmp (a := (word s 0)) (b := ([116, 105, 109, 101, 114] : Str)) _ rfl rfl Tryd.underlying9 rfl ?_
            refine asg (.bool _) rfl ?_
            refine jt ?_
            refine c_cond rfl (fun h11 => ?_) (fun h11 => ?_)
            · replace h11 := of_decide_eq_true h11
              refine c_reg ?_
              refine mv (.pointer _) rfl ?_
              refine cal (number_ct b10 s ((word s 0).length) (by omega) (by omega) (0 : UInt64) (31536000 : UInt64) eu ev ru rv) [1] [0, 2] [_, _] rfl rfl rfl (by kernel_rfl) (impl_cons (impl_at 0 rfl) (impl_cons (impl_at 2 rfl) (impl_cons (impl_at 3 rfl) impl_nil))) rfl ?_; rintro _ _ _ (⟨nn13, nq13, hnm13, rfl, rfl, rfl⟩ | ⟨nn13, nq13, hnm13, hnm13b, rfl, rfl, rfl⟩)
              · have hnm13b := numR_next hnm13; refine ⟨trivial, ?_⟩
                refine fad rfl Tryd.underlying30 rfl ty3.sz ?_
                refine stp 1 0 _ (pt (5 : Int)) rfl rfl rfl rfl rfl rfl ty3 ⟨trivial, ?_⟩
                refine fad rfl Tryd.underlying30 rfl ty23.sz ?_
                refine stp 1 5 _ (pt nn13) rfl rfl rfl rfl rfl rfl ty23 ⟨trivial, ?_⟩
                refine jn ?_
                refine e_in ?_
                refine e_then ?_
                refine c_seq ?_
                refine c_seq ?_
                refine c_reg ?_
                refine mv (.pointer _) rfl ?_
                refine nlc rfl ?_
                refine fad rfl Tryd.underlying56 rfl ty4.sz ?_
                refine ldp 2 2 _ rfl rfl rfl rfl ty4 ?_
                refine mv (.bool _) rfl ?_
                refine g_on rfl rfl rfl ?_
                refine mv (.pointer _) rfl ?_
                refine g_on rfl rfl rfl ?_
                refine nlc rfl ?_
                refine g_on rfl rfl rfl ?_
                refine fad rfl Tryd.underlying56 rfl ty3.sz ?_
                refine g_on rfl rfl rfl ?_
                refine ldp 2 1 _ rfl rfl rfl rfl ty3 ?_
                refine g_on rfl rfl rfl ?_
                refine mv (.string _) rfl ?_
                refine g_on rfl rfl rfl ?_
                refine lenT (s := s) rfl Tryd.underlying9 ?_
                refine g_on rfl rfl rfl ?_
                refine cmp _ rfl rfl rfl ?_
                refine pkf (.bool _) rfl rfl ?_
                refine jt ?_
                refine c_cond rfl (fun h12 => ?_) (fun h12 => ?_)
                · replace h12 := of_decide_eq_true h12
                  refine c_seq ?_
                  refine c_dr [_, _, _, _, _, _] [] [(0, 0), (1, 0), (2, 0), (3, 0), (4, 0), (5, 1), (6, 0), (7, 0)] follows (by kernel_rfl) calm_body (keepS [1, 2, 3, 4, 5, 6] rfl) ?_
                  refine bld [pt (0 : Int), pt ([] : Str), p1 (.slice none 0 0), pt (⟨0⟩ : F64), pt (⟨0⟩ : F64), pt (0 : UInt64), pt (zarr : (Arr UInt8 32))] [] _ Tryd.underlying30 (lay30 _ Tryd.underlying30) z30 rfl rfl rfl ?_
                  refine mv (.pointer _) rfl ?_
                  refine nlc rfl ?_
                  refine fad rfl Tryd.underlying56 rfl ty3.sz ?_
                  refine ldp 1 1 _ rfl rfl rfl rfl ty3 ?_
                  refine stw 0 _ [pt (0 : Int), pt ([] : Str), p1 (.slice none 0 0), pt (⟨0⟩ : F64), pt (⟨0⟩ : F64), pt (0 : UInt64), pt (zarr : (Arr UInt8 32))] rfl rfl rfl rfl ty30 ⟨keepI [1, 2, 3, 4, 5, 6] rfl, ?_⟩
                  refine asg (.int _ _) rfl ?_
                  refine asg (.int _ _) rfl ?_
                  refine jt ?_
                  refine c_ret ?_
                  exact j_end (own0 := []) (ro0 := [tPow10 3, tDb64 8, tIf 5 eu ev, tIf 6 ru rv]) (.inl rfl) rfl (hr3 Tryd.results12 (rvc (p := pa [pt (0 : Int), pt ([] : Str), p1 (.slice none 0 0), pt (⟨0⟩ : F64), pt (⟨0⟩ : F64), pt (0 : UInt64), pt (zarr : (Arr UInt8 32))]) 0 rfl rfl rfl ty30) (rvt (v := (.int _ _)) rfl) (rvt (v := (.int _ _)) rfl)) [] [0, 1, 2] [] [_, _, _] [] _ rfl rfl (by kernel_rfl) rfl impl_nil (.inr ⟨_, parse_timer_e (by assumption) hnm13 (by omega), rfl, rfl, rfl⟩)
                · replace h12 := of_decide_eq_false h12
                  refine c_skip ?_
                  refine e_then ?_
                  refine c_seq ?_
                  refine c_reg ?_
                  refine ldw 1 _ rfl rfl ty30 ?_
                  refine stw 0 _ [pt (5 : Int), pt ([] : Str), p1 (.slice none 0 0), pt (⟨0⟩ : F64), pt (⟨0⟩ : F64), pt nn13, pt (zarr : (Arr UInt8 32))] rfl rfl rfl rfl ty30 ⟨trivial, ?_⟩
                  refine asg (.int _ _) rfl ?_
                  refine asg (.int _ _) rfl ?_
                  refine jt ?_
                  refine c_ret ?_
                  refine e_addE ?_
                  exact j_end (own0 := []) (ro0 := [tPow10 3, tDb64 8, tIf 5 eu ev, tIf 6 ru rv]) (.inl rfl) rfl (hr3 Tryd.results12 (rvc (p := pa [pt (5 : Int), pt ([] : Str), p1 (.slice none 0 0), pt (⟨0⟩ : F64), pt (⟨0⟩ : F64), pt nn13, pt (zarr : (Arr UInt8 32))]) 0 rfl rfl rfl ty30) (rvt (v := (.int _ _)) rfl) (rvt (v := (.int _ _)) rfl)) [3] [0, 1, 2] [_] [_, _, _] [] _ rfl rfl (by kernel_rfl) rfl impl_nil (.inl ⟨(⟨(5 : Int), ([] : Str), (⟨0⟩ : F64), (⟨0⟩ : F64), nn13, (zarr : (Arr UInt8 32))⟩ : Con), [], Ow.nil, _, (by have h := parse_timer (by assumption) hnm13 (by omega); rw [UInt64.ofNat_toNat] at h; exact h), by simp, Ow.nil_ok, rfl, rfl, rfl⟩)
              · refine ⟨trivial, ?_⟩
                refine fad rfl Tryd.underlying30 rfl ty3.sz ?_
                refine stp 1 0 _ (pt (5 : Int)) rfl rfl rfl rfl rfl rfl ty3 ⟨trivial, ?_⟩
                refine fad rfl Tryd.underlying30 rfl ty23.sz ?_
                refine stp 1 5 _ (pt nn13) rfl rfl rfl rfl rfl rfl ty23 ⟨trivial, ?_⟩
                refine jn ?_
                refine e_in ?_
                refine e_then ?_
                refine c_seq ?_
                refine c_seq ?_
                refine c_reg ?_
                refine mv (.pointer _) rfl ?_
                refine nlc rfl ?_
                refine fad rfl Tryd.underlying56 rfl ty4.sz ?_
                refine ldp 2 2 _ rfl rfl rfl rfl ty4 ?_
                refine mv (.bool _) rfl ?_
                refine g_off rfl rfl rfl rfl ?_
                refine g_off rfl rfl rfl rfl ?_
                refine g_off rfl rfl rfl rfl ?_
                refine g_off rfl rfl rfl rfl ?_
                refine g_off rfl rfl rfl rfl ?_
                refine g_off rfl rfl rfl rfl ?_
                refine g_off rfl rfl rfl rfl ?_
                refine pkt (.bool _) rfl rfl ?_
                refine jt ?_
                refine c_true rfl ?_
                refine c_seq ?_
                refine c_dr [_, _, _, _, _, _] [] [(0, 0), (1, 0), (2, 0), (3, 0), (4, 0), (5, 1), (6, 0), (7, 0)] follows (by kernel_rfl) calm_body (keepS [1, 2, 3, 4, 5, 6] rfl) ?_
                refine bld [pt (0 : Int), pt ([] : Str), p1 (.slice none 0 0), pt (⟨0⟩ : F64), pt (⟨0⟩ : F64), pt (0 : UInt64), pt (zarr : (Arr UInt8 32))] [] _ Tryd.underlying30 (lay30 _ Tryd.underlying30) z30 rfl rfl rfl ?_
                refine mv (.pointer _) rfl ?_
                refine nlc rfl ?_
                refine fad rfl Tryd.underlying56 rfl ty3.sz ?_
                refine ldp 1 1 _ rfl rfl rfl rfl ty3 ?_
                refine stw 0 _ [pt (0 : Int), pt ([] : Str), p1 (.slice none 0 0), pt (⟨0⟩ : F64), pt (⟨0⟩ : F64), pt (0 : UInt64), pt (zarr : (Arr UInt8 32))] rfl rfl rfl rfl ty30 ⟨keepI [1, 2, 3, 4, 5, 6] rfl, ?_⟩
                refine asg (.int _ _) rfl ?_
                refine asg (.int _ _) rfl ?_
                refine jt ?_
                refine c_ret ?_
                exact j_end (own0 := []) (ro0 := [tPow10 3, tDb64 8, tIf 5 eu ev, tIf 6 ru rv]) (.inl rfl) rfl (hr3 Tryd.results12 (rvc (p := pa [pt (0 : Int), pt ([] : Str), p1 (.slice none 0 0), pt (⟨0⟩ : F64), pt (⟨0⟩ : F64), pt (0 : UInt64), pt (zarr : (Arr UInt8 32))]) 0 rfl rfl rfl ty30) (rvt (v := (.int _ _)) rfl) (rvt (v := (.int _ _)) rfl)) [] [0, 1, 2] [] [_, _, _] [] _ rfl rfl (by kernel_rfl) rfl impl_nil (.inr ⟨_, parse_timer_f0 (by assumption) hnm13, rfl, rfl, rfl⟩)
            · replace h11 := of_decide_eq_false h11
              refine c_seq ?_
              refine c_reg ?_
              refine scmp (a := (word s 0)) (b := ([102, 105, 108, 101] : Str)) _ rfl rfl Tryd.underlying9 rfl ?_
              refine asg (.bool _) rfl ?_
              refine jt ?_
              refine c_cond rfl (fun h13 => ?_) (fun h13 => ?_)
              · replace h13 := of_decide_eq_true h13
                refine c_seq ?_
                refine c_reg ?_
                refine mv (.pointer _) rfl ?_
                refine cal (text_rct b10 s ((word s 0).length) (by omega) (by omega) 1 255 (by omega) (by omega) eu ev ru rv) [1] [0, 2] [_, _] rfl rfl rfl (by kernel_rfl) (impl_cons (impl_at 1 rfl) (impl_cons (impl_at 2 rfl) (impl_cons (impl_at 3 rfl) impl_nil))) rfl ?_; rintro _ _ _ (⟨tt14, tq14, htx14, rfl, rfl, rfl⟩ | ⟨tt14, tq14, htx14, htx14b, rfl, rfl, rfl⟩)
                · have htx14b := textR_next htx14; refine ⟨trivial, ?_⟩
                  refine fad rfl Tryd.underlying30 rfl ty3.sz ?_
                  refine stp 1 0 _ (pt (6 : Int)) rfl rfl rfl rfl rfl rfl ty3 ⟨trivial, ?_⟩
                  refine fad rfl Tryd.underlying30 rfl ty9.sz ?_
                  refine stp 1 1 _ (pt tt14) rfl rfl rfl rfl rfl rfl ty9 ⟨trivial, ?_⟩
                  refine jt ?_
                  refine c_seq ?_
                  refine c_reg ?_
                  refine mv (.pointer _) rfl ?_
                  refine cal (number_ct b10 s tq14 (by omega) (by omega) (0 : UInt64) (1099511627776 : UInt64) eu ev ru rv) [2] [0, 1] [_, _] rfl rfl rfl (by kernel_rfl) (impl_cons (impl_at 0 rfl) (impl_cons (impl_at 2 rfl) (impl_cons (impl_at 3 rfl) impl_nil))) rfl ?_; rintro _ _ _ (⟨nn15, nq15, hnm15, rfl, rfl, rfl⟩ | ⟨nn15, nq15, hnm15, hnm15b, rfl, rfl, rfl⟩)
                  · have hnm15b := numR_next hnm15; refine ⟨trivial, ?_⟩
                    refine fad rfl Tryd.underlying30 rfl ty23.sz ?_
                    refine stp 1 5 _ (pt nn15) rfl rfl rfl rfl rfl rfl ty23 ⟨trivial, ?_⟩
                    refine jt ?_
                    refine c_reg ?_
                    refine mv (.pointer _) rfl ?_
                    refine cal (bytes_ct b10 s nq15 (by omega) (by omega) 32 (by omega) (by omega)) [2] [0, 1] [_, _] rfl rfl rfl (by kernel_rfl) impl_nil rfl ?_; rintro _ _ _ (⟨yb16, yq16, hby16, hky16, rfl, rfl, rfl⟩ | ⟨yb16, yx16, yq16, hby16, hby16b, hky16, hyl16, rfl, rfl, rfl⟩)
                    · have hby16b := hexR_next hby16; refine ⟨trivial, ?_⟩
                      refine sap rfl Tryd.underlying25 (by omega) ?_
                      refine ldRow (xs := (hexb (word s (nq15 + 1)) 32)) 3 hky16 (hrow_length _ _ _) (by decide) rfl rfl rfl ty25 ?_
                      refine fad rfl Tryd.underlying30 rfl ty25.sz ?_
                      refine stp 1 6 _ (pt (⟨(hexb (word s (nq15 + 1)) 32), (hrow_length _ _ _)⟩ : (Arr UInt8 32))) rfl rfl rfl rfl rfl rfl ty25 ⟨trivial, ?_⟩
                      refine jn ?_
                      refine e_in ?_
                      refine e_then ?_
                      refine c_seq ?_
                      refine c_seq ?_
                      refine c_reg ?_
                      refine mv (.pointer _) rfl ?_
                      refine nlc rfl ?_
                      refine fad rfl Tryd.underlying56 rfl ty4.sz ?_
                      refine ldp 2 2 _ rfl rfl rfl rfl ty4 ?_
                      refine mv (.bool _) rfl ?_
                      refine g_on rfl rfl rfl ?_
                      refine mv (.pointer _) rfl ?_
                      refine g_on rfl rfl rfl ?_
                      refine nlc rfl ?_
                      refine g_on rfl rfl rfl ?_
                      refine fad rfl Tryd.underlying56 rfl ty3.sz ?_
                      refine g_on rfl rfl rfl ?_
                      refine ldp 2 1 _ rfl rfl rfl rfl ty3 ?_
                      refine g_on rfl rfl rfl ?_
                      refine mv (.string _) rfl ?_
                      refine g_on rfl rfl rfl ?_
                      refine lenT (s := s) rfl Tryd.underlying9 ?_
                      refine g_on rfl rfl rfl ?_
                      refine cmp _ rfl rfl rfl ?_
                      refine pkf (.bool _) rfl rfl ?_
                      refine jt ?_
                      refine c_cond rfl (fun h14 => ?_) (fun h14 => ?_)
                      · replace h14 := of_decide_eq_true h14
                        refine c_seq ?_
                        refine c_dr [_, _, _, _, _, _, _] [] [(0, 0), (1, 0), (2, 0), (3, 0), (4, 0), (5, 1), (6, 0), (7, 0)] follows (by kernel_rfl) calm_body (keepS [1, 2, 3, 4, 5, 6, 7] rfl) ?_
                        refine bld [pt (0 : Int), pt ([] : Str), p1 (.slice none 0 0), pt (⟨0⟩ : F64), pt (⟨0⟩ : F64), pt (0 : UInt64), pt (zarr : (Arr UInt8 32))] [] _ Tryd.underlying30 (lay30 _ Tryd.underlying30) z30 rfl rfl rfl ?_
                        refine mv (.pointer _) rfl ?_
                        refine nlc rfl ?_
                        refine fad rfl Tryd.underlying56 rfl ty3.sz ?_
                        refine ldp 1 1 _ rfl rfl rfl rfl ty3 ?_
                        refine stw 0 _ [pt (0 : Int), pt ([] : Str), p1 (.slice none 0 0), pt (⟨0⟩ : F64), pt (⟨0⟩ : F64), pt (0 : UInt64), pt (zarr : (Arr UInt8 32))] rfl rfl rfl rfl ty30 ⟨keepI [1, 2, 3, 4, 5, 6, 7] rfl, ?_⟩
                        refine asg (.int _ _) rfl ?_
                        refine asg (.int _ _) rfl ?_
                        refine jt ?_
                        refine c_ret ?_
                        exact j_end (own0 := []) (ro0 := [tPow10 3, tDb64 8, tIf 5 eu ev, tIf 6 ru rv]) (.inl rfl) rfl (hr3 Tryd.results12 (rvc (p := pa [pt (0 : Int), pt ([] : Str), p1 (.slice none 0 0), pt (⟨0⟩ : F64), pt (⟨0⟩ : F64), pt (0 : UInt64), pt (zarr : (Arr UInt8 32))]) 0 rfl rfl rfl ty30) (rvt (v := (.int _ _)) rfl) (rvt (v := (.int _ _)) rfl)) [] [0, 1, 2, 3] [] [_, _, _, _] [] _ rfl rfl (by kernel_rfl) rfl impl_nil (.inr ⟨_, parse_file_e (by assumption) htx14 hnm15 hby16 (by omega), rfl, rfl, rfl⟩)
                      · replace h14 := of_decide_eq_false h14
                        refine c_skip ?_
                        refine e_then ?_
                        refine c_seq ?_
                        refine c_reg ?_
                        refine ldw 1 _ rfl rfl ty30 ?_
                        refine stw 0 _ [pt (6 : Int), pt tt14, p1 (.slice none 0 0), pt (⟨0⟩ : F64), pt (⟨0⟩ : F64), pt nn15, pt (⟨(hexb (word s (nq15 + 1)) 32), (hrow_length _ _ _)⟩ : (Arr UInt8 32))] rfl rfl rfl rfl ty30 ⟨trivial, ?_⟩
                        refine asg (.int _ _) rfl ?_
                        refine asg (.int _ _) rfl ?_
                        refine jt ?_
                        refine c_ret ?_
                        refine e_addE ?_
                        exact j_end (own0 := []) (ro0 := [tPow10 3, tDb64 8, tIf 5 eu ev, tIf 6 ru rv]) (.inl rfl) rfl (hr3 Tryd.results12 (rvc (p := pa [pt (6 : Int), pt tt14, p1 (.slice none 0 0), pt (⟨0⟩ : F64), pt (⟨0⟩ : F64), pt nn15, pt (⟨(hexb (word s (nq15 + 1)) 32), (hrow_length _ _ _)⟩ : (Arr UInt8 32))]) 0 rfl rfl rfl ty30) (rvt (v := (.int _ _)) rfl) (rvt (v := (.int _ _)) rfl)) [4] [0, 1, 2, 3] [_] [_, _, _, _] [] _ rfl rfl (by kernel_rfl) rfl impl_nil (.inl ⟨(⟨(6 : Int), tt14, (⟨0⟩ : F64), (⟨0⟩ : F64), nn15, (⟨(hexb (word s (nq15 + 1)) 32), (hrow_length _ _ _)⟩ : (Arr UInt8 32))⟩ : Con), [], Ow.nil, _, (by have h := parse_file (by assumption) htx14 hnm15 hby16 (by omega); rw [UInt64.ofNat_toNat, mkKey_hex] at h; exact h), by simp, Ow.nil_ok, rfl, rfl, rfl⟩)
                    · refine ⟨trivial, ?_⟩
                      refine sap rfl Tryd.underlying25 (by omega) ?_
                      refine ldRow (xs := yx16) 3 hky16 hyl16 (by decide) rfl rfl rfl ty25 ?_
                      refine fad rfl Tryd.underlying30 rfl ty25.sz ?_
                      refine stp 1 6 _ (pt (⟨yx16, hyl16⟩ : (Arr UInt8 32))) rfl rfl rfl rfl rfl rfl ty25 ⟨trivial, ?_⟩
                      refine jn ?_
                      refine e_in ?_
                      refine e_then ?_
                      refine c_seq ?_
                      refine c_seq ?_
                      refine c_reg ?_
                      refine mv (.pointer _) rfl ?_
                      refine nlc rfl ?_
                      refine fad rfl Tryd.underlying56 rfl ty4.sz ?_
                      refine ldp 2 2 _ rfl rfl rfl rfl ty4 ?_
                      refine mv (.bool _) rfl ?_
                      refine g_off rfl rfl rfl rfl ?_
                      refine g_off rfl rfl rfl rfl ?_
                      refine g_off rfl rfl rfl rfl ?_
                      refine g_off rfl rfl rfl rfl ?_
                      refine g_off rfl rfl rfl rfl ?_
                      refine g_off rfl rfl rfl rfl ?_
                      refine g_off rfl rfl rfl rfl ?_
                      refine pkt (.bool _) rfl rfl ?_
                      refine jt ?_
                      refine c_true rfl ?_
                      refine c_seq ?_
                      refine c_dr [_, _, _, _, _, _, _] [] [(0, 0), (1, 0), (2, 0), (3, 0), (4, 0), (5, 1), (6, 0), (7, 0)] follows (by kernel_rfl) calm_body (keepS [1, 2, 3, 4, 5, 6, 7] rfl) ?_
                      refine bld [pt (0 : Int), pt ([] : Str), p1 (.slice none 0 0), pt (⟨0⟩ : F64), pt (⟨0⟩ : F64), pt (0 : UInt64), pt (zarr : (Arr UInt8 32))] [] _ Tryd.underlying30 (lay30 _ Tryd.underlying30) z30 rfl rfl rfl ?_
                      refine mv (.pointer _) rfl ?_
                      refine nlc rfl ?_
                      refine fad rfl Tryd.underlying56 rfl ty3.sz ?_
                      refine ldp 1 1 _ rfl rfl rfl rfl ty3 ?_
                      refine stw 0 _ [pt (0 : Int), pt ([] : Str), p1 (.slice none 0 0), pt (⟨0⟩ : F64), pt (⟨0⟩ : F64), pt (0 : UInt64), pt (zarr : (Arr UInt8 32))] rfl rfl rfl rfl ty30 ⟨keepI [1, 2, 3, 4, 5, 6, 7] rfl, ?_⟩
                      refine asg (.int _ _) rfl ?_
                      refine asg (.int _ _) rfl ?_
                      refine jt ?_
                      refine c_ret ?_
                      exact j_end (own0 := []) (ro0 := [tPow10 3, tDb64 8, tIf 5 eu ev, tIf 6 ru rv]) (.inl rfl) rfl (hr3 Tryd.results12 (rvc (p := pa [pt (0 : Int), pt ([] : Str), p1 (.slice none 0 0), pt (⟨0⟩ : F64), pt (⟨0⟩ : F64), pt (0 : UInt64), pt (zarr : (Arr UInt8 32))]) 0 rfl rfl rfl ty30) (rvt (v := (.int _ _)) rfl) (rvt (v := (.int _ _)) rfl)) [] [0, 1, 2, 3] [] [_, _, _, _] [] _ rfl rfl (by kernel_rfl) rfl impl_nil (.inr ⟨_, parse_file_f2 (by assumption) htx14 hnm15 hby16, rfl, rfl, rfl⟩)
                  · refine ⟨trivial, ?_⟩
                    refine fad rfl Tryd.underlying30 rfl ty23.sz ?_
                    refine stp 1 5 _ (pt nn15) rfl rfl rfl rfl rfl rfl ty23 ⟨trivial, ?_⟩
                    refine jt ?_
                    refine c_reg ?_
                    refine mv (.pointer _) rfl ?_
                    refine cal (bytes_bad b10 s nq15 (by omega) (by omega) 32 (by omega) (by omega)) [2] [0, 1] [_, _] rfl rfl rfl (by kernel_rfl) impl_nil rfl ?_; rintro _ _ _ ⟨yb17, yx17, hky17, hyl17, rfl, rfl, rfl⟩; refine ⟨trivial, ?_⟩
                    refine sap rfl Tryd.underlying25 (by omega) ?_
                    refine ldRow (xs := yx17) 3 hky17 hyl17 (by decide) rfl rfl rfl ty25 ?_
                    refine fad rfl Tryd.underlying30 rfl ty25.sz ?_
                    refine stp 1 6 _ (pt (⟨yx17, hyl17⟩ : (Arr UInt8 32))) rfl rfl rfl rfl rfl rfl ty25 ⟨trivial, ?_⟩
                    refine jn ?_
                    refine e_in ?_
                    refine e_then ?_
                    refine c_seq ?_
                    refine c_seq ?_
                    refine c_reg ?_
                    refine mv (.pointer _) rfl ?_
                    refine nlc rfl ?_
                    refine fad rfl Tryd.underlying56 rfl ty4.sz ?_
                    refine ldp 2 2 _ rfl rfl rfl rfl ty4 ?_
                    refine mv (.bool _) rfl ?_
                    refine g_off rfl rfl rfl rfl ?_
                    refine g_off rfl rfl rfl rfl ?_
                    refine g_off rfl rfl rfl rfl ?_
                    refine g_off rfl rfl rfl rfl ?_
                    refine g_off rfl rfl rfl rfl ?_
                    refine g_off rfl rfl rfl rfl ?_
                    refine g_off rfl rfl rfl rfl ?_
                    refine pkt (.bool _) rfl rfl ?_
                    refine jt ?_
                    refine c_true rfl ?_
                    refine c_seq ?_
                    refine c_dr [_, _, _, _, _, _, _] [] [(0, 0), (1, 0), (2, 0), (3, 0), (4, 0), (5, 1), (6, 0), (7, 0)] follows (by kernel_rfl) calm_body (keepS [1, 2, 3, 4, 5, 6, 7] rfl) ?_
                    refine bld [pt (0 : Int), pt ([] : Str), p1 (.slice none 0 0), pt (⟨0⟩ : F64), pt (⟨0⟩ : F64), pt (0 : UInt64), pt (zarr : (Arr UInt8 32))] [] _ Tryd.underlying30 (lay30 _ Tryd.underlying30) z30 rfl rfl rfl ?_
                    refine mv (.pointer _) rfl ?_
                    refine nlc rfl ?_
                    refine fad rfl Tryd.underlying56 rfl ty3.sz ?_
                    refine ldp 1 1 _ rfl rfl rfl rfl ty3 ?_
                    refine stw 0 _ [pt (0 : Int), pt ([] : Str), p1 (.slice none 0 0), pt (⟨0⟩ : F64), pt (⟨0⟩ : F64), pt (0 : UInt64), pt (zarr : (Arr UInt8 32))] rfl rfl rfl rfl ty30 ⟨keepI [1, 2, 3, 4, 5, 6, 7] rfl, ?_⟩
                    refine asg (.int _ _) rfl ?_
                    refine asg (.int _ _) rfl ?_
                    refine jt ?_
                    refine c_ret ?_
                    exact j_end (own0 := []) (ro0 := [tPow10 3, tDb64 8, tIf 5 eu ev, tIf 6 ru rv]) (.inl rfl) rfl (hr3 Tryd.results12 (rvc (p := pa [pt (0 : Int), pt ([] : Str), p1 (.slice none 0 0), pt (⟨0⟩ : F64), pt (⟨0⟩ : F64), pt (0 : UInt64), pt (zarr : (Arr UInt8 32))]) 0 rfl rfl rfl ty30) (rvt (v := (.int _ _)) rfl) (rvt (v := (.int _ _)) rfl)) [] [0, 1, 2, 3] [] [_, _, _, _] [] _ rfl rfl (by kernel_rfl) rfl impl_nil (.inr ⟨_, parse_file_f1 (by assumption) htx14 hnm15, rfl, rfl, rfl⟩)
                · refine ⟨trivial, ?_⟩
                  refine fad rfl Tryd.underlying30 rfl ty3.sz ?_
                  refine stp 1 0 _ (pt (6 : Int)) rfl rfl rfl rfl rfl rfl ty3 ⟨trivial, ?_⟩
                  refine fad rfl Tryd.underlying30 rfl ty9.sz ?_
                  refine stp 1 1 _ (pt tt14) rfl rfl rfl rfl rfl rfl ty9 ⟨trivial, ?_⟩
                  refine jt ?_
                  refine c_seq ?_
                  refine c_reg ?_
                  refine mv (.pointer _) rfl ?_
                  refine cal (number_bad b10 s tq14 (by omega) (by omega) (0 : UInt64) (1099511627776 : UInt64)) [2] [0, 1] [_, _] rfl rfl rfl (by kernel_rfl) impl_nil rfl ?_; rintro _ _ _ ⟨nn18, rfl, rfl, rfl⟩; refine ⟨trivial, ?_⟩
                  refine fad rfl Tryd.underlying30 rfl ty23.sz ?_
                  refine stp 1 5 _ (pt nn18) rfl rfl rfl rfl rfl rfl ty23 ⟨trivial, ?_⟩
                  refine jt ?_
                  refine c_reg ?_
                  refine mv (.pointer _) rfl ?_
                  refine cal (bytes_bad b10 s tq14 (by omega) (by omega) 32 (by omega) (by omega)) [2] [0, 1] [_, _] rfl rfl rfl (by kernel_rfl) impl_nil rfl ?_; rintro _ _ _ ⟨yb19, yx19, hky19, hyl19, rfl, rfl, rfl⟩; refine ⟨trivial, ?_⟩
                  refine sap rfl Tryd.underlying25 (by omega) ?_
                  refine ldRow (xs := yx19) 3 hky19 hyl19 (by decide) rfl rfl rfl ty25 ?_
                  refine fad rfl Tryd.underlying30 rfl ty25.sz ?_
                  refine stp 1 6 _ (pt (⟨yx19, hyl19⟩ : (Arr UInt8 32))) rfl rfl rfl rfl rfl rfl ty25 ⟨trivial, ?_⟩
                  refine jn ?_
                  refine e_in ?_
                  refine e_then ?_
                  refine c_seq ?_
                  refine c_seq ?_
                  refine c_reg ?_
                  refine mv (.pointer _) rfl ?_
                  refine nlc rfl ?_
                  refine fad rfl Tryd.underlying56 rfl ty4.sz ?_
                  refine ldp 2 2 _ rfl rfl rfl rfl ty4 ?_
                  refine mv (.bool _) rfl ?_
                  refine g_off rfl rfl rfl rfl ?_
                  refine g_off rfl rfl rfl rfl ?_
                  refine g_off rfl rfl rfl rfl ?_
                  refine g_off rfl rfl rfl rfl ?_
                  refine g_off rfl rfl rfl rfl ?_
                  refine g_off rfl rfl rfl rfl ?_
                  refine g_off rfl rfl rfl rfl ?_
                  refine pkt (.bool _) rfl rfl ?_
                  refine jt ?_
                  refine c_true rfl ?_
                  refine c_seq ?_
                  refine c_dr [_, _, _, _, _, _, _] [] [(0, 0), (1, 0), (2, 0), (3, 0), (4, 0), (5, 1), (6, 0), (7, 0)] follows (by kernel_rfl) calm_body (keepS [1, 2, 3, 4, 5, 6, 7] rfl) ?_
                  refine bld [pt (0 : Int), pt ([] : Str), p1 (.slice none 0 0), pt (⟨0⟩ : F64), pt (⟨0⟩ : F64), pt (0 : UInt64), pt (zarr : (Arr UInt8 32))] [] _ Tryd.underlying30 (lay30 _ Tryd.underlying30) z30 rfl rfl rfl ?_
                  refine mv (.pointer _) rfl ?_
                  refine nlc rfl ?_
                  refine fad rfl Tryd.underlying56 rfl ty3.sz ?_
                  refine ldp 1 1 _ rfl rfl rfl rfl ty3 ?_
                  refine stw 0 _ [pt (0 : Int), pt ([] : Str), p1 (.slice none 0 0), pt (⟨0⟩ : F64), pt (⟨0⟩ : F64), pt (0 : UInt64), pt (zarr : (Arr UInt8 32))] rfl rfl rfl rfl ty30 ⟨keepI [1, 2, 3, 4, 5, 6, 7] rfl, ?_⟩
                  refine asg (.int _ _) rfl ?_
                  refine asg (.int _ _) rfl ?_
                  refine jt ?_
                  refine c_ret ?_
                  exact j_end (own0 := []) (ro0 := [tPow10 3, tDb64 8, tIf 5 eu ev, tIf 6 ru rv]) (.inl rfl) rfl (hr3 Tryd.results12 (rvc (p := pa [pt (0 : Int), pt ([] : Str), p1 (.slice none 0 0), pt (⟨0⟩ : F64), pt (⟨0⟩ : F64), pt (0 : UInt64), pt (zarr : (Arr UInt8 32))]) 0 rfl rfl rfl ty30) (rvt (v := (.int _ _)) rfl) (rvt (v := (.int _ _)) rfl)) [] [0, 1, 2, 3] [] [_, _, _, _] [] _ rfl rfl (by kernel_rfl) rfl impl_nil (.inr ⟨_, parse_file_f0 (by assumption) htx14, rfl, rfl, rfl⟩)
              · replace h13 := of_decide_eq_false h13
                refine c_reg ?_
                refine mv (.pointer _) rfl ?_
                refine mv (.pointer _) rfl ?_
                refine nlc rfl ?_
                refine fad rfl Tryd.underlying56 rfl ty3.sz ?_
                refine stp 1 1 _ (pt (0 : Int)) rfl rfl rfl rfl rfl rfl ty3 ⟨trivial, ?_⟩
                refine nlc rfl ?_
                refine fad rfl Tryd.underlying56 rfl ty4.sz ?_
                refine stp 1 2 _ (p1 (.bool true)) rfl rfl rfl rfl rfl rfl ty4 ⟨trivial, ?_⟩
                refine jn ?_
                refine e_in ?_
                refine e_then ?_
                refine c_seq ?_
                refine c_seq ?_
                refine c_reg ?_
                refine mv (.pointer _) rfl ?_
                refine nlc rfl ?_
                refine fad rfl Tryd.underlying56 rfl ty4.sz ?_
                refine ldp 1 2 _ rfl rfl rfl rfl ty4 ?_
                refine mv (.bool _) rfl ?_
                refine g_off rfl rfl rfl rfl ?_
                refine g_off rfl rfl rfl rfl ?_
                refine g_off rfl rfl rfl rfl ?_
                refine g_off rfl rfl rfl rfl ?_
                refine g_off rfl rfl rfl rfl ?_
                refine g_off rfl rfl rfl rfl ?_
                refine g_off rfl rfl rfl rfl ?_
                refine pkt (.bool _) rfl rfl ?_
                refine jt ?_
                refine c_true rfl ?_
                refine c_seq ?_
                refine c_dr [_, _, _, _, _, _] [] [(0, 0), (1, 0), (2, 0), (3, 0), (4, 0), (5, 1), (6, 0), (7, 0)] follows (by kernel_rfl) calm_body (keepS [1, 2, 3, 4, 5, 6] rfl) ?_
                refine bld [pt (0 : Int), pt ([] : Str), p1 (.slice none 0 0), pt (⟨0⟩ : F64), pt (⟨0⟩ : F64), pt (0 : UInt64), pt (zarr : (Arr UInt8 32))] [] _ Tryd.underlying30 (lay30 _ Tryd.underlying30) z30 rfl rfl rfl ?_
                refine mv (.pointer _) rfl ?_
                refine nlc rfl ?_
                refine fad rfl Tryd.underlying56 rfl ty3.sz ?_
                refine ldp 0 1 _ rfl rfl rfl rfl ty3 ?_
                refine stw 0 _ [pt (0 : Int), pt ([] : Str), p1 (.slice none 0 0), pt (⟨0⟩ : F64), pt (⟨0⟩ : F64), pt (0 : UInt64), pt (zarr : (Arr UInt8 32))] rfl rfl rfl rfl ty30 ⟨keepI [1, 2, 3, 4, 5, 6] rfl, ?_⟩
                refine asg (.int _ _) rfl ?_
                refine asg (.int _ _) rfl ?_
                refine jt ?_
                refine c_ret ?_
                exact j_end (own0 := []) (ro0 := [tPow10 3, tDb64 8, tIf 5 eu ev, tIf 6 ru rv]) (.inl rfl) rfl (hr3 Tryd.results12 (rvc (p := pa [pt (0 : Int), pt ([] : Str), p1 (.slice none 0 0), pt (⟨0⟩ : F64), pt (⟨0⟩ : F64), pt (0 : UInt64), pt (zarr : (Arr UInt8 32))]) 0 rfl rfl rfl ty30) (rvt (v := (.int _ _)) rfl) (rvt (v := (.int _ _)) rfl)) [] [0, 1, 2] [] [_, _, _] [] _ rfl rfl (by kernel_rfl) rfl impl_nil (.inr ⟨0, parse_none (by assumption) (by assumption) (by assumption) (by assumption) (by assumption) (by assumption) (by assumption), rfl, rfl, rfl⟩)
end Go.Proofs.YthpbiamicidakaaDoor
namespace Go.PW
open Go
def hexu (c : UInt8) : UInt64 := UInt64.ofNat (hexv c)
theorem hexu_nat (c : UInt8) : (hexu c).toNat = hexv c := by unfold hexu; rw [UInt64.toNat_ofNat']; have := hexv_le c; omega
theorem u8_sub {c d : UInt8} (h : d.toNat ≤ c.toNat) : (c - d).toNat = c.toNat - d.toNat := UInt8.toNat_sub_of_le _ _ (UInt8.le_iff_toNat_le.2 h)
theorem hexu_d {c : UInt8} (h1 : 48 ≤ c.toNat) (h2 : c.toNat ≤ 57) : UInt64.ofNat (c - 48).toNat = hexu c := by
  unfold hexu hexv; rw [if_pos ⟨h1, h2⟩, u8_sub (d := 48) h1]; rfl
theorem hexu_l {c : UInt8} (h1 : 97 ≤ c.toNat) (h2 : c.toNat ≤ 102) : UInt64.ofNat (c - 97).toNat + 10 = hexu c := by
  unfold hexu hexv; rw [if_neg (by omega), if_pos ⟨h1, h2⟩, u8_sub (d := 97) h1]
  apply UInt64.toNat_inj.1
  rw [UInt64.toNat_add, UInt64.toNat_ofNat', UInt64.toNat_ofNat']
  show ((c.toNat - 97) % 2 ^ 64 + 10) % 2 ^ 64 = (c.toNat - 87) % 2 ^ 64
  omega
theorem hexu_o {c : UInt8} (h1 : ¬(48 ≤ c.toNat ∧ c.toNat ≤ 57)) (h2 : ¬(97 ≤ c.toNat ∧ c.toNat ≤ 102)) : (16 : UInt64) = hexu c := by
  unfold hexu hexv; rw [if_neg h1, if_neg h2]; rfl
theorem take_suc {w : Str} {i : Nat} (h : i < w.length) : w.take (i + 1) = w.take i ++ [List.getD w i 0] := by
  rw [List.take_succ_eq_append_getElem h]; simp [List.getD, h]
theorem getD_mem {w : Str} {i : Nat} (h : i < w.length) : List.getD w i 0 ∈ w := by simp [List.getD, h]
structure NB (w : Str) (i : Nat) (n : UInt64) : Prop where
  le : i ≤ w.length
  i18 : i ≤ 18
  val : n.toNat = valN 10 (w.take i)
  lt : n.toNat < 10 ^ i
theorem NB.start (w : Str) : NB w 0 0 := ⟨Nat.zero_le _, by omega, by simp [valN], by simp⟩
theorem NB.small {w : Str} {i : Nat} {n : UInt64} (h : NB w i n) : n.toNat < 10 ^ 18 := Nat.lt_of_lt_of_le h.lt (Nat.pow_le_pow_right (by omega) h.i18)
theorem NB.go {w : Str} {i : Nat} {n : UInt64} (h : NB w i n) (hi : i < w.length) (h1 : 48 ≤ (List.getD w i 0).toNat) (h2 : (List.getD w i 0).toNat ≤ 57) (h3 : i < 18) : NB w (i + 1) (n * 10 + UInt64.ofNat (List.getD w i 0 - 48).toNat) := by
  have hs := h.small
  have hl := h.lt
  have e : (n * 10 + UInt64.ofNat (List.getD w i 0 - 48).toNat).toNat = n.toNat * 10 + ((List.getD w i 0).toNat - 48) := by
    rw [UInt64.toNat_add, UInt64.toNat_mul, UInt64.toNat_ofNat', u8_sub (d := 48) h1]
    show (n.toNat * 10 % 2 ^ 64 + ((List.getD w i 0).toNat - 48) % 2 ^ 64) % 2 ^ 64 = _
    omega
  refine ⟨hi, by omega, ?_, ?_⟩
  · rw [e, take_suc hi, valN_app, ← h.val]; unfold dgv; rw [if_pos (by omega)]
  · rw [e, Nat.pow_succ]; omega
theorem fmt_dig {k : Nat} {x : UInt8} (h : x ∈ fmtN 10 k) : 48 ≤ x.toNat ∧ x.toNat ≤ 57 := by
  obtain ⟨d, hd, rfl⟩ := digs_mem (by omega) (by omega) _ _ _ h
  unfold dch; rw [if_pos hd, UInt8.toNat_ofNat']; omega
theorem NB.no {w : Str} {i k m : Nat} {n : UInt64} (_ : NB w i n) (hi : i < w.length) (hc : (List.getD w i 0).toNat < 48 ∨ 57 < (List.getD w i 0).toNat ∨ 18 ≤ i) (hm : m < 1000000000000000000) (hp : pnum 10 w = some k) : ¬ k ≤ m := by
  intro hk
  have e := pnum_some hp
  have hd := fmt_dig (k := k) (x := List.getD w i 0) (by rw [← e]; exact getD_mem hi)
  rcases hc with c | c | c
  · omega
  · omega
  · have h18 : ndg 10 64 k ≤ 18 := ndg_bound (by omega) (by omega) (by omega)
    have hl : w.length ≤ 18 := by rw [e]; unfold fmtN; rw [digs_length]; exact h18
    omega
theorem NB.fin {w : Str} {i : Nat} {n : UInt64} (h : NB w i n) (hi : ¬ i < w.length) : valN 10 w = n.toNat := by
  rw [h.val, List.take_of_length_le (by omega)]
theorem NB.yes {w : Str} {i : Nat} {n : UInt64} (h : NB w i n) (hi : ¬ i < w.length) (hf : fmtN 10 n.toNat = w) : pnum 10 w = some n.toNat := by
  unfold pnum; rw [h.fin hi, if_pos hf]
theorem NB.bad {w : Str} {i k m : Nat} {n : UInt64} (h : NB w i n) (hi : ¬ i < w.length) (hf : ¬(n.toNat ≤ m ∧ fmtN 10 n.toNat = w)) (hp : pnum 10 w = some k) : ¬ k ≤ m := by
  unfold pnum at hp
  rw [h.fin hi] at hp
  by_cases e : fmtN 10 n.toNat = w
  · rw [if_pos e] at hp; cases hp; exact fun hk => hf ⟨hk, e⟩
  · rw [if_neg e] at hp; cases hp
structure XB (w : Str) (i : Nat) (n : UInt64) : Prop where
  le : i ≤ w.length
  i16 : i ≤ 16
  val : n.toNat = hval w i
  dig : ∀ j, j < i → hexv (List.getD w j 0) < 16
  lt : n.toNat < 16 ^ i
theorem XB.start (w : Str) : XB w 0 0 := ⟨Nat.zero_le _, by omega, by simp [hval], fun j hj => by omega, by simp⟩
theorem XB.go {w : Str} {i : Nat} {n : UInt64} (h : XB w i n) (hi : i < w.length) (h1 : (hexu (List.getD w i 0)).toNat ≤ 15) (h3 : i < 16) : XB w (i + 1) (n * 16 + hexu (List.getD w i 0)) := by
  have hl := h.lt
  have hx := hexu_nat (List.getD w i 0)
  have h15 : n.toNat < 16 ^ 15 := Nat.lt_of_lt_of_le hl (Nat.pow_le_pow_right (by omega) (by omega))
  have e : (n * 16 + hexu (List.getD w i 0)).toNat = n.toNat * 16 + hexv (List.getD w i 0) := by
    rw [UInt64.toNat_add, UInt64.toNat_mul, hx]
    show (n.toNat * 16 % 2 ^ 64 + hexv (List.getD w i 0)) % 2 ^ 64 = _
    omega
  refine ⟨hi, by omega, by rw [e, hval_step hi, ← h.val], fun j hj => ?_, by rw [e, Nat.pow_succ]; omega⟩
  rcases Nat.lt_succ_iff_lt_or_eq.1 hj with hj | hj
  · exact h.dig j hj
  · subst hj; omega
theorem XB.no {w : Str} {i : Nat} {n : UInt64} (_ : XB w i n) (hi : i < w.length) (hc : 15 < (hexu (List.getD w i 0)).toNat ∨ 16 ≤ i) : ¬(w.length = 2 * 8 ∧ hexok w = true) := by
  intro ⟨h1, h2⟩
  have := hexok_get h2 hi
  have hx := hexu_nat (List.getD w i 0)
  omega
theorem XB.fin {w : Str} {i : Nat} {n : UInt64} (h : XB w i n) (hi : ¬ i < w.length) (hl : w.length = 16) : w.length = 2 * 8 ∧ hexok w = true ∧ (⟨n⟩ : F64) = degB w := by
  have hi' : i = 16 := by have := h.le; omega
  subst hi'
  exact ⟨hl, hexok_of fun j hj => h.dig j (by omega), degB_of hl h.val⟩
structure KB (w : Str) (i : Nat) (k : Key) : Prop where
  i32 : i ≤ 32
  dig : ∀ j, j < 2 * i → hexv (List.getD w j 0) < 16
  val : ∀ j, j < i → List.getD k.l j 0 = hbyte w 64 j
theorem KB.start (w : Str) : KB w 0 zarr := ⟨by omega, fun j hj => by omega, fun j hj => by omega⟩
theorem getD_set (l : Str) (i j : Nat) (x : UInt8) (h : i < l.length) : List.getD (l.set i x) j 0 = if j = i then x else List.getD l j 0 := by
  simp only [List.getD, List.getElem?_set]
  by_cases e : i = j
  · subst e; simp [h]
  · rw [if_neg e, if_neg (fun h => e h.symm)]
theorem KB.go {w : Str} {i : Nat} {k : Key} (h : KB w i k) (hi : i < 32) (h0 : (hexu (List.getD w (2 * i) 0)).toNat ≤ 15) (h1 : (hexu (List.getD w (2 * i + 1) 0)).toNat ≤ 15) :
    KB w (i + 1) (Arr.set k i (UInt8.ofNat (hexu (List.getD w (2 * i) 0) * 16 + hexu (List.getD w (2 * i + 1) 0)).toNat)) := by
  have e0 := hexu_nat (List.getD w (2 * i) 0)
  have e1 := hexu_nat (List.getD w (2 * i + 1) 0)
  have e : (hexu (List.getD w (2 * i) 0) * 16 + hexu (List.getD w (2 * i + 1) 0)).toNat = hexv (List.getD w (2 * i) 0) * 16 + hexv (List.getD w (2 * i + 1) 0) := by
    rw [UInt64.toNat_add, UInt64.toNat_mul, e0, e1]
    show (hexv (List.getD w (2 * i) 0) * 16 % 2 ^ 64 + hexv (List.getD w (2 * i + 1) 0)) % 2 ^ 64 = _
    omega
  refine ⟨hi, fun j hj => ?_, fun j hj => ?_⟩
  · by_cases c0 : j = 2 * i
    · subst c0; omega
    by_cases c1 : j = 2 * i + 1
    · subst c1; omega
    exact h.dig j (by omega)
  · rw [e]
    show List.getD (k.l.set i _) j 0 = _
    rw [getD_set _ _ _ _ (by rw [k.h]; exact hi)]
    by_cases c : j = i
    · subst c; rw [if_pos rfl]; unfold hbyte; rw [if_pos (by omega)]
    · rw [if_neg c]; exact h.val j (by omega)
theorem KB.no {w : Str} {i : Nat} (hl : w.length = 64) (hi : i < 32) (hc : 15 < (hexu (List.getD w (2 * i) 0)).toNat ∨ 15 < (hexu (List.getD w (2 * i + 1) 0)).toNat) : ¬(w.length = 2 * 32 ∧ hexok w = true) := by
  intro ⟨_, h2⟩
  have := hexok_get h2 (i := 2 * i) (by omega)
  have := hexok_get h2 (i := 2 * i + 1) (by omega)
  have e0 := hexu_nat (List.getD w (2 * i) 0)
  have e1 := hexu_nat (List.getD w (2 * i + 1) 0)
  omega
theorem KB.fin {w : Str} {i : Nat} {k : Key} (h : KB w i k) (hl : w.length = 64) (hi : ¬ i < 32) : w.length = 2 * 32 ∧ hexok w = true ∧ k = mkKey (hexb w 32) := by
  have hi' : i = 32 := by have := h.i32; omega
  subst hi'
  refine ⟨hl, hexok_of fun j hj => h.dig j (by omega), ?_⟩
  rw [mkKey_hex]
  apply Arr.ext
  show k.l = hexb w 32
  apply List.ext_getElem (by rw [k.h]; exact (hrow_length _ _ _).symm)
  intro j h1 h2
  have hj : j < 32 := by rw [k.h] at h1; exact h1
  have a := h.val j hj
  have b : List.getD (hexb w 32) j 0 = hbyte w (2 * 32) j := by unfold hexb; exact hrow_get hj
  rw [← b] at a
  simpa [List.getD, h1, h2] using a
def qend (s : Str) (a : Nat) : Nat := if a < s.length ∧ List.getD s a 0 = 34 ∧ qstop s (a + 1) < s.length then qstop s (a + 1) + 1 else a
theorem qend_no {s : Str} {a : Nat} (h : ¬(a < s.length ∧ List.getD s a 0 = 34)) : qend s a = a := if_neg fun hh => h ⟨hh.1, hh.2.1⟩
theorem qend_at {s : Str} {a i : Nat} (h1 : a < s.length) (h2 : List.getD s a 0 = 34) (hq : qstop s i = qstop s (a + 1)) (hi : i < s.length) (hc : List.getD s i 0 = 34) : i + 1 = qend s a := by
  have : qstop s i = i := qstop_end fun h => h.2 hc
  unfold qend; rw [← hq, this, if_pos ⟨h1, h2, hi⟩]
theorem qend_out {s : Str} {a i : Nat} (hq : qstop s i = qstop s (a + 1)) (hi : ¬ i < s.length) : qend s a = a := by
  have : qstop s i = i := qstop_end fun h => hi h.1
  unfold qend; rw [← hq, this, if_neg fun h => hi h.2.2]
theorem qend_le {s : Str} {a : Nat} (h : a ≤ s.length) : a ≤ qend s a ∧ qend s a ≤ s.length := by
  unfold qend
  have := qstop_ge s.length s (a + 1) (by omega)
  split <;> omega
theorem qend_yes {s : Str} {a : Nat} (h : qend s a ≠ a) : a < s.length ∧ List.getD s a 0 = 34 ∧ qstop s (a + 1) < s.length ∧ qend s a = qstop s (a + 1) + 1 ∧ a + 2 ≤ qend s a ∧ List.take (qend s a - a) (List.drop a s) = [34] ++ qin s a ++ [34] := by
  unfold qend at h ⊢
  by_cases c : a < s.length ∧ List.getD s a 0 = 34 ∧ qstop s (a + 1) < s.length
  · rw [if_pos c]
    have hg := qstop_ge s.length s (a + 1) (by omega)
    have hat := qstop_at s.length s (a + 1) (by omega) c.2.2
    refine ⟨c.1, c.2.1, c.2.2, rfl, by omega, ?_⟩
    obtain ⟨q, hq⟩ : ∃ q, qstop s (a + 1) = a + 1 + q := ⟨qstop s (a + 1) - (a + 1), by omega⟩
    have hlt := c.2.2
    unfold qin
    rw [hq] at hat hlt ⊢
    rw [show a + 1 + q + 1 - a = q + 1 + 1 by omega, show a + 1 + q - (a + 1) = q by omega, List.drop_eq_getElem_cons c.1, List.take_succ_cons, List.take_succ_eq_append_getElem (by rw [List.length_drop]; omega), List.getElem_drop]
    have e1 : s[a]'c.1 = 34 := by have := c.2.1; simpa [List.getD, c.1] using this
    have e2 : s[a + 1 + q]'hlt = 34 := by simpa [List.getD, hlt] using hat
    rw [e1, e2]; rfl
  · rw [if_neg c] at h; exact absurd rfl h
end Go.PW
namespace Go.PW
open Go
theorem drop_cons_of {q : Str} {i : Nat} {x : UInt8} {r : Str} (h : q.drop i = x :: r) : i < q.length ∧ List.getD q i 0 = x ∧ q.drop (i + 1) = r := by
  have hl : i < q.length := Nat.lt_of_not_le fun hn => by rw [List.drop_of_length_le hn] at h; cases h
  rw [List.drop_eq_getElem_cons hl] at h
  injection h with h1 h2
  exact ⟨hl, by simpa [List.getD, hl] using h1, h2⟩
theorem wlen_step {s : Str} {i : Nat} (h : i < s.length) (hc : ¬ List.getD s i 0 = 32) : wlen s i = wlen s (i + 1) + 1 := by
  have e : List.getD s i 0 = s[i] := by simp [List.getD, h]
  rw [e] at hc
  unfold wlen idxN
  rw [List.drop_eq_getElem_cons h, List.takeWhile_cons_of_pos (by simpa using hc)]; rfl
theorem wlen_end {s : Str} {i : Nat} (h : ¬(i < s.length ∧ ¬ List.getD s i 0 = 32)) : wlen s i = 0 := by
  unfold wlen idxN
  by_cases hl : i < s.length
  · have hc : List.getD s i 0 = 32 := Decidable.byContradiction fun hn => h ⟨hl, hn⟩
    have e : List.getD s i 0 = s[i] := by simp [List.getD, hl]
    rw [e] at hc
    rw [List.drop_eq_getElem_cons hl, List.takeWhile_cons_of_neg (by simpa using hc)]; rfl
  · rw [List.drop_of_length_le (by omega)]; rfl
def encv (c : Nat) : Str := if vrune c = true then enc8 c else []
theorem encv_len (c : Nat) : (encv c).length ≤ 4 := by
  unfold encv
  split
  · exact (enc8_len c).2
  · simp
theorem vrune_lt {c : Nat} (h : vrune c = true) : c ≤ 1114111 := by have := vrune_iff.1 h; omega
theorem ub {n : UInt64} {k : Nat} (h : n.toNat = k) : UInt8.ofNat n.toNat = UInt8.ofNat k := by rw [h]
theorem encv_1 {n : UInt64} (h : n.toNat < 128) : [UInt8.ofNat n.toNat] = encv n.toNat := by
  unfold encv enc8; rw [if_pos (vrune_iff.2 (by omega)), if_pos h]
theorem encv_0 {n : UInt64} (h : ¬(n.toNat < 55296)) (h2 : n.toNat ≤ 57343 ∨ 1114111 < n.toNat) : ([] : Str) = encv n.toNat := by
  unfold encv; rw [if_neg (fun hv => by have := vrune_iff.1 hv; omega)]
theorem encv_2 {n : UInt64} (h0 : ¬ n.toNat < 128) (h : n.toNat < 2048) : [UInt8.ofNat (192 + n / 64).toNat, UInt8.ofNat (128 + n % 64).toNat] = encv n.toNat := by
  unfold encv enc8; rw [if_pos (vrune_iff.2 (by omega)), if_neg h0, if_pos h]
  rw [ub (k := 192 + n.toNat / 64) (by rw [UInt64.toNat_add, UInt64.toNat_div]; show (192 + n.toNat / 64) % 2 ^ 64 = _; omega), ub (k := 128 + n.toNat % 64) (by rw [UInt64.toNat_add, UInt64.toNat_mod]; show (128 + n.toNat % 64) % 2 ^ 64 = _; omega)]
theorem encv_3 {n : UInt64} (h0 : ¬ n.toNat < 2048) (hv : n.toNat < 55296 ∨ 57343 < n.toNat) (h : n.toNat < 65536) : [UInt8.ofNat (224 + n / 4096).toNat, UInt8.ofNat (128 + n / 64 % 64).toNat, UInt8.ofNat (128 + n % 64).toNat] = encv n.toNat := by
  unfold encv enc8; rw [if_pos (vrune_iff.2 (by omega)), if_neg (by omega), if_neg h0, if_pos h]
  rw [ub (k := 224 + n.toNat / 4096) (by rw [UInt64.toNat_add, UInt64.toNat_div]; show (224 + n.toNat / 4096) % 2 ^ 64 = _; omega), ub (k := 128 + n.toNat / 64 % 64) (by rw [UInt64.toNat_add, UInt64.toNat_mod, UInt64.toNat_div]; show (128 + n.toNat / 64 % 64) % 2 ^ 64 = _; omega), ub (k := 128 + n.toNat % 64) (by rw [UInt64.toNat_add, UInt64.toNat_mod]; show (128 + n.toNat % 64) % 2 ^ 64 = _; omega)]
theorem encv_4 {n : UInt64} (h0 : ¬ n.toNat < 65536) (hv : n.toNat ≤ 1114111) : [UInt8.ofNat (240 + n / 262144).toNat, UInt8.ofNat (128 + n / 4096 % 64).toNat, UInt8.ofNat (128 + n / 64 % 64).toNat, UInt8.ofNat (128 + n % 64).toNat] = encv n.toNat := by
  unfold encv enc8; rw [if_pos (vrune_iff.2 (by omega)), if_neg (by omega), if_neg (by omega), if_neg h0]
  rw [ub (k := 240 + n.toNat / 262144) (by rw [UInt64.toNat_add, UInt64.toNat_div]; show (240 + n.toNat / 262144) % 2 ^ 64 = _; omega), ub (k := 128 + n.toNat / 4096 % 64) (by rw [UInt64.toNat_add, UInt64.toNat_mod, UInt64.toNat_div]; show (128 + n.toNat / 4096 % 64) % 2 ^ 64 = _; omega), ub (k := 128 + n.toNat / 64 % 64) (by rw [UInt64.toNat_add, UInt64.toNat_mod, UInt64.toNat_div]; show (128 + n.toNat / 64 % 64) % 2 ^ 64 = _; omega), ub (k := 128 + n.toNat % 64) (by rw [UInt64.toNat_add, UInt64.toNat_mod]; show (128 + n.toNat % 64) % 2 ^ 64 = _; omega)]
theorem rq_head {q : Str} {i : Nat} {t : Str} (hu : u8ok t = true) (hd : q.drop i = qbody t ++ [34]) (hi : i + 1 < q.length) :
    ∃ c r, u8ok r = true ∧ vrune c = true ∧ t = enc8 c ++ r ∧ q.drop i = qstep c ++ (qbody r ++ [34]) := by
  have hl : 0 < t.length := Nat.pos_of_ne_zero fun h0 => by
    rw [qbody_nil h0] at hd
    have := congrArg List.length hd
    rw [List.length_drop] at this; simp at this; omega
  have hs := u8ok_step hu hl
  have he := chr_enc hs hl
  refine ⟨chr t, t.drop (u8step t), u8ok_rest hu hl, he.2, by rw [he.1]; exact (List.take_append_drop _ _).symm, ?_⟩
  rw [hd, qbody_go hs hl, List.append_assoc]
theorem qs_cases (c : Nat) : (∃ x, qstep c = [92, x] ∧ (x = 34 ∨ x = 92) ∧ enc8 c = [x]) ∨ (∃ x, qstep c = [x] ∧ x ≠ 92 ∧ enc8 c = [x]) ∨ qstep c = 92 :: 117 :: 123 :: (fmtN 16 c ++ [125]) := by
  by_cases h : c = 34 ∨ c = 92
  · refine .inl ⟨UInt8.ofNat c, qstep_q h, ?_, ?_⟩
    · rcases h with h | h <;> subst h
      · exact .inl rfl
      · exact .inr rfl
    · unfold enc8; rw [if_pos (by omega)]
  by_cases h2 : 32 ≤ c ∧ c ≤ 126
  · refine .inr (.inl ⟨UInt8.ofNat c, qstep_p h h2, fun e => ?_, ?_⟩)
    · have := congrArg UInt8.toNat e
      rw [bn (by omega)] at this
      exact h (.inr this)
    · unfold enc8; rw [if_pos (by omega)]
  · exact .inr (.inr (by rw [qstep_u h h2]; rfl))
structure RQ (q out : Str) (i : Nat) : Prop where
  le : i ≤ q.length
  len : out.length ≤ 4 * i
  fwd : ∀ t, u8ok t = true → q = quoteS t → ∃ t', u8ok t' = true ∧ t = out ++ t' ∧ q.drop i = qbody t' ++ [34]
theorem RQ.start {q : Str} (h : 2 ≤ q.length) : RQ q [] 1 := ⟨by omega, by simp, fun t ht e => ⟨t, ht, rfl, by rw [e]; rfl⟩⟩
theorem RQ.one {q out : Str} {i : Nat} (h : RQ q out i) (hi : i + 1 < q.length) (hc : ¬ List.getD q i 0 = 92) : RQ q (out ++ List.take (i + 1 - i) (List.drop i q)) (i + 1) := by
  refine ⟨by omega, by have := h.len; simp; omega, fun t ht e => ?_⟩
  obtain ⟨t', hu, rfl, hd⟩ := h.fwd t ht e
  obtain ⟨c, r, hr, hv, rfl, hq⟩ := rq_head hu hd hi
  rcases qs_cases c with ⟨x, hx, hx2, hx3⟩ | ⟨x, hx, hx2, hx3⟩ | hx
  · rw [hx] at hq; exact absurd (drop_cons_of hq).2.1 hc
  · rw [hx] at hq
    have := drop_cons_of hq
    refine ⟨r, hr, ?_, this.2.2⟩
    rw [hq, hx3, show i + 1 - i = 1 by omega]; simp
  · rw [hx] at hq; exact absurd (drop_cons_of hq).2.1 hc
theorem RQ.two {q out : Str} {i : Nat} (h : RQ q out i) (hi : i + 1 < q.length) (hc : List.getD q i 0 = 92) (hn : ¬(i + 3 < q.length ∧ List.getD q (i + 1) 0 = 117 ∧ List.getD q (i + 1 + 1) 0 = 123)) :
    RQ q (out ++ List.take (i + 1 + 1 - (i + 1)) (List.drop (i + 1) q)) (i + 1 + 1) := by
  refine ⟨by omega, by have := h.len; simp; omega, fun t ht e => ?_⟩
  obtain ⟨t', hu, rfl, hd⟩ := h.fwd t ht e
  obtain ⟨c, r, hr, hv, rfl, hq⟩ := rq_head hu hd hi
  rcases qs_cases c with ⟨x, hx, hx2, hx3⟩ | ⟨x, hx, hx2, hx3⟩ | hx
  · rw [hx] at hq
    have h1 := drop_cons_of hq
    have h2 := drop_cons_of h1.2.2
    refine ⟨r, hr, ?_, h2.2.2⟩
    rw [h1.2.2, hx3, show i + 1 + 1 - (i + 1) = 1 by omega]; simp
  · rw [hx] at hq; exact absurd ((drop_cons_of hq).2.1.symm.trans hc) hx2
  · rw [hx] at hq
    have h1 := drop_cons_of hq
    have h2 := drop_cons_of h1.2.2
    have h3 := drop_cons_of h2.2.2
    have h4 : q.drop (i + 1 + 1 + 1) = fmtN 16 c ++ [125] ++ (qbody r ++ [34]) := h3.2.2
    have hl := congrArg List.length h4
    have hf := (fmtN_length 16 c).1
    simp only [List.length_drop, List.length_append, List.length_cons, List.length_nil] at hl
    exact absurd ⟨by omega, h2.2.1, h3.2.1⟩ hn
theorem RQ.fin {q out : Str} {i : Nat} (h : RQ q out i) (hi : ¬ i + 1 < q.length) {t : Str} (ht : u8ok t = true) (e : q = quoteS t) : t = out := by
  obtain ⟨t', hu, rfl, hd⟩ := h.fwd t ht e
  have hl := congrArg List.length hd
  rw [List.length_drop, List.length_append] at hl
  simp only [List.length_cons, List.length_nil] at hl
  have hq : (qbody t').length = 0 := by omega
  have ht0 : t'.length = 0 := by
    apply Decidable.byContradiction
    intro hn
    have hs := u8ok_step hu (by omega)
    rw [qbody_go hs (by omega), List.length_append] at hq
    rcases qs_cases (chr t') with ⟨x, hx, _⟩ | ⟨x, hx, _⟩ | hx <;> rw [hx] at hq <;> simp at hq
  rw [List.eq_nil_of_length_eq_zero ht0, List.append_nil]
theorem valN_mono (b : Nat) (hb : 1 ≤ b) (x y : Str) : valN b x ≤ valN b (x ++ y) := by
  unfold valN; rw [List.foldl_append]
  generalize List.foldl (fun a c => a * b + dgv c) 0 x = a
  induction y generalizing a with
  | nil => exact Nat.le_refl _
  | cons c r ih =>
    rw [List.foldl_cons]
    exact Nat.le_trans (by have := Nat.mul_le_mul_left a hb; omega) (ih _)
theorem hexv_dch : ∀ d, d < 16 → hexv (dch d) = d := by decide
structure RN (q out : Str) (i : Nat) (n : UInt64) : Prop where
  le : i + 1 ≤ q.length
  len : out.length ≤ 4 * i
  lt : n.toNat ≤ 268435472
  fwd : ∀ t, u8ok t = true → q = quoteS t → ∃ t' c k, u8ok t' = true ∧ vrune c = true ∧ t = out ++ (enc8 c ++ t') ∧ k ≤ (fmtN 16 c).length ∧ q.drop i = (fmtN 16 c).drop k ++ 125 :: (qbody t' ++ [34]) ∧ n.toNat = valN 16 ((fmtN 16 c).take k)
theorem RN.start {q out : Str} {i : Nat} (h : RQ q out i) (hi : i + 1 < q.length) (hc : List.getD q i 0 = 92) (hn : i + 3 < q.length ∧ List.getD q (i + 1) 0 = 117 ∧ List.getD q (i + 1 + 1) 0 = 123) : RN q out (i + 1 + 2) 0 := by
  refine ⟨by omega, by have := h.len; omega, by decide, fun t ht e => ?_⟩
  obtain ⟨t', hu, rfl, hd⟩ := h.fwd t ht e
  obtain ⟨c, r, hr, hv, rfl, hq⟩ := rq_head hu hd hi
  rcases qs_cases c with ⟨x, hx, hx2, hx3⟩ | ⟨x, hx, hx2, hx3⟩ | hx
  · rw [hx] at hq
    have h2 := drop_cons_of (drop_cons_of hq).2.2
    have : x = 117 := h2.2.1.symm.trans hn.2.1
    subst this
    rcases hx2 with h | h <;> cases h
  · rw [hx] at hq; exact absurd ((drop_cons_of hq).2.1.symm.trans hc) hx2
  · rw [hx] at hq
    have h3 := drop_cons_of (drop_cons_of (drop_cons_of hq).2.2).2.2
    exact ⟨r, c, 0, hr, hv, rfl, Nat.zero_le _, by rw [show i + 1 + 2 = i + 1 + 1 + 1 by omega, h3.2.2]; simp, by simp [valN]⟩
theorem RN.go {q out : Str} {i : Nat} {n : UInt64} (h : RN q out i n) (hi : i + 1 < q.length) (hc : ¬ List.getD q i 0 = 125) (hn : n.toNat < 16777216) : RN q out (i + 1) (n * 16 + hexu (List.getD q i 0)) := by
  have hx := hexu_nat (List.getD q i 0)
  have hxl := hexv_le (List.getD q i 0)
  have e : (n * 16 + hexu (List.getD q i 0)).toNat = n.toNat * 16 + hexv (List.getD q i 0) := by
    rw [UInt64.toNat_add, UInt64.toNat_mul, hx]
    show (n.toNat * 16 % 2 ^ 64 + hexv (List.getD q i 0)) % 2 ^ 64 = _
    omega
  refine ⟨by omega, by have := h.len; omega, by rw [e]; omega, fun t ht et => ?_⟩
  obtain ⟨t', c, k, hu, hv, rfl, hk, hd, hval⟩ := h.fwd t ht et
  have hkl : k < (fmtN 16 c).length := Nat.lt_of_not_le fun hle => by
    rw [List.drop_of_length_le hle] at hd
    exact hc (drop_cons_of hd).2.1
  rw [List.drop_eq_getElem_cons hkl] at hd
  have h1 := drop_cons_of hd
  refine ⟨t', c, k + 1, hu, hv, rfl, hkl, h1.2.2, ?_⟩
  have hg : List.getD (fmtN 16 c) k 0 = List.getD q i 0 := by rw [h1.2.1]; simp [List.getD, hkl]
  obtain ⟨d, hd16, hdd⟩ : ∃ d, d < 16 ∧ List.getD (fmtN 16 c) k 0 = dch d := digs_mem (by omega) (by omega) _ _ _ (getD_mem hkl)
  rw [e, take_suc hkl, valN_app, ← hval, ← hg, hdd, hexv_dch d hd16, dgv_dch d (by omega)]
theorem RN.fin {q out : Str} {i : Nat} {n : UInt64} (h : RN q out i n) (hs : ¬(i + 1 < q.length ∧ ¬ List.getD q i 0 = 125 ∧ n.toNat < 16777216)) : RQ q (out ++ encv n.toNat) (i + 1) := by
  refine ⟨h.le, by have := h.len; have := encv_len n.toNat; rw [List.length_append]; omega, fun t ht et => ?_⟩
  obtain ⟨t', c, k, hu, hv, rfl, hk, hd, hval⟩ := h.fwd t ht et
  have hcl := vrune_lt hv
  have hfull : valN 16 (fmtN 16 c) = c := valN_fmt (by omega) (by omega) (u64_pow (by omega) (by omega))
  have hkl : k = (fmtN 16 c).length := by
    apply Decidable.byContradiction
    intro hne
    have hlt : k < (fmtN 16 c).length := by omega
    have hl := congrArg List.length hd
    simp only [List.length_drop, List.length_append, List.length_cons, List.length_nil] at hl
    rw [List.drop_eq_getElem_cons hlt] at hd
    have h1 := drop_cons_of hd
    refine hs ⟨by omega, ?_, ?_⟩
    · rw [h1.2.1]; exact fmt16_mem (List.getElem_mem hlt)
    · have := valN_mono 16 (by omega) ((fmtN 16 c).take k) ((fmtN 16 c).drop k)
      rw [List.take_append_drop, hfull] at this
      omega
  subst hkl
  rw [List.take_length, hfull] at hval
  rw [List.drop_length] at hd
  refine ⟨t', hu, ?_, (drop_cons_of hd).2.2⟩
  unfold encv; rw [hval, if_pos hv, List.append_assoc]
theorem quote_iff {q t : Str} : quoteS t = [34] ++ q ++ [34] ↔ qbody t = q := by
  unfold quoteS
  constructor
  · intro h; exact List.append_cancel_left (List.append_cancel_right h)
  · intro h; rw [h]
end Go.PW
namespace Go.Proofs.YthpbiamicidakaaDoor
open Go Go.Proofs Go.PW
open Go.PW.Enc (enc val)
theorem digit_ct (c : UInt8) : Ct Tryd.prog 69 [.int .u8 (c.toNat : Int)] [] [] (fun v o r => v = .int .u64 ((hexu c).toNat : Int) ∧ o = [] ∧ r = []) := by
  refine ct_enter Tryd.func69 rfl Tryd.ntmps69 (by kernel_rfl) rfl fun w0 => ?_
  refine c_seq ?_
  refine c_reg ?_
  refine asg (.int _ _) rfl ?_
  refine jt ?_
  refine c_seq ?_
  refine c_seq ?_
  refine c_reg ?_
  refine mv (.int _ _) rfl ?_
  refine cmp _ rfl rfl rfl ?_
  refine mv (.bool _) rfl ?_
  refine jsplit 5 rfl (fun h1 => ?_) (fun h1 => ?_)
  · replace h1 := of_decide_eq_true h1
    refine g_on rfl rfl rfl ?_
    refine mv (.int _ _) rfl ?_
    refine g_on rfl rfl rfl ?_
    refine cmp _ rfl rfl rfl ?_
    refine pkt (.bool _) rfl rfl ?_
    refine jt ?_
    refine c_cond rfl (fun h2 => ?_) (fun h2 => ?_)
    · replace h2 := of_decide_eq_true h2
      refine c_seq ?_
      refine c_reg ?_
      refine mv (.int _ _) rfl ?_
      refine subU8 (a := c) (b := (48 : UInt8)) rfl rfl ?_
      refine cvNU64 (n := (c - (48 : UInt8)).toNat) rfl Tryd.underlying5 Tryd.underlying23 ?_
      refine asg (.int _ _) rfl ?_
      refine jt ?_
      refine c_ret ?_
      exact j_end (own0 := []) (ro0 := []) (.inl rfl) rfl (hr1 Tryd.results69 (rvt (v := (.int _ _)) rfl)) [] [] [] [] [] _ rfl rfl (by kernel_rfl) rfl impl_nil (⟨congrArg (fun x : UInt64 => Value.int .u64 (x.toNat : Int)) (hexu_d (by omega) (by omega)), rfl, rfl⟩)
    · replace h2 := of_decide_eq_false h2
      refine c_skip ?_
      refine e_then ?_
      refine c_seq ?_
      refine c_seq ?_
      refine c_reg ?_
      refine mv (.int _ _) rfl ?_
      refine cmp _ rfl rfl rfl ?_
      refine mv (.bool _) rfl ?_
      refine jsplit 14 rfl (fun h3 => ?_) (fun h3 => ?_)
      · replace h3 := of_decide_eq_true h3
        refine g_on rfl rfl rfl ?_
        refine mv (.int _ _) rfl ?_
        refine g_on rfl rfl rfl ?_
        refine cmp _ rfl rfl rfl ?_
        refine pkt (.bool _) rfl rfl ?_
        refine jt ?_
        refine c_cond rfl (fun h4 => ?_) (fun h4 => ?_)
        · replace h4 := of_decide_eq_true h4
          refine c_seq ?_
          refine c_reg ?_
          refine mv (.int _ _) rfl ?_
          refine subU8 (a := c) (b := (97 : UInt8)) rfl rfl ?_
          refine cvNU64 (n := (c - (97 : UInt8)).toNat) rfl Tryd.underlying5 Tryd.underlying23 ?_
          refine addU64 (a := (UInt64.ofNat ((c - (97 : UInt8)).toNat))) (b := (10 : UInt64)) rfl rfl ?_
          refine asg (.int _ _) rfl ?_
          refine jt ?_
          refine c_ret ?_
          exact j_end (own0 := []) (ro0 := []) (.inl rfl) rfl (hr1 Tryd.results69 (rvt (v := (.int _ _)) rfl)) [] [] [] [] [] _ rfl rfl (by kernel_rfl) rfl impl_nil (⟨congrArg (fun x : UInt64 => Value.int .u64 (x.toNat : Int)) (hexu_l (by omega) (by omega)), rfl, rfl⟩)
        · replace h4 := of_decide_eq_false h4
          refine c_skip ?_
          refine e_then ?_
          refine c_seq ?_
          refine c_reg ?_
          refine asg (.int _ _) rfl ?_
          refine jt ?_
          refine c_ret ?_
          exact j_end (own0 := []) (ro0 := []) (.inl rfl) rfl (hr1 Tryd.results69 (rvt (v := (.int _ _)) rfl)) [] [] [] [] [] _ rfl rfl (by kernel_rfl) rfl impl_nil (⟨congrArg (fun x : UInt64 => Value.int .u64 (x.toNat : Int)) (hexu_o (by omega) (by omega)), rfl, rfl⟩)
      · replace h3 := of_decide_eq_false h3
        refine g_off rfl rfl rfl rfl ?_
        refine g_off rfl rfl rfl rfl ?_
        refine pkf (.bool _) rfl rfl ?_
        refine jt ?_
        refine c_false rfl ?_
        refine c_skip ?_
        refine e_then ?_
        refine c_seq ?_
        refine c_reg ?_
        refine asg (.int _ _) rfl ?_
        refine jt ?_
        refine c_ret ?_
        exact j_end (own0 := []) (ro0 := []) (.inl rfl) rfl (hr1 Tryd.results69 (rvt (v := (.int _ _)) rfl)) [] [] [] [] [] _ rfl rfl (by kernel_rfl) rfl impl_nil (⟨congrArg (fun x : UInt64 => Value.int .u64 (x.toNat : Int)) (hexu_o (by omega) (by omega)), rfl, rfl⟩)
  · replace h1 := of_decide_eq_false h1
    refine g_off rfl rfl rfl rfl ?_
    refine g_off rfl rfl rfl rfl ?_
    refine pkf (.bool _) rfl rfl ?_
    refine jt ?_
    refine c_false rfl ?_
    refine c_skip ?_
    refine e_then ?_
    refine c_seq ?_
    refine c_seq ?_
    refine c_reg ?_
    refine mv (.int _ _) rfl ?_
    refine cmp _ rfl rfl rfl ?_
    refine mv (.bool _) rfl ?_
    refine jsplit 14 rfl (fun h5 => ?_) (fun h5 => ?_)
    · replace h5 := of_decide_eq_true h5
      refine g_on rfl rfl rfl ?_
      refine mv (.int _ _) rfl ?_
      refine g_on rfl rfl rfl ?_
      refine cmp _ rfl rfl rfl ?_
      refine pkt (.bool _) rfl rfl ?_
      refine jt ?_
      refine c_cond rfl (fun h6 => ?_) (fun h6 => ?_)
      · replace h6 := of_decide_eq_true h6
        refine c_seq ?_
        refine c_reg ?_
        refine mv (.int _ _) rfl ?_
        refine subU8 (a := c) (b := (97 : UInt8)) rfl rfl ?_
        refine cvNU64 (n := (c - (97 : UInt8)).toNat) rfl Tryd.underlying5 Tryd.underlying23 ?_
        refine addU64 (a := (UInt64.ofNat ((c - (97 : UInt8)).toNat))) (b := (10 : UInt64)) rfl rfl ?_
        refine asg (.int _ _) rfl ?_
        refine jt ?_
        refine c_ret ?_
        exact j_end (own0 := []) (ro0 := []) (.inl rfl) rfl (hr1 Tryd.results69 (rvt (v := (.int _ _)) rfl)) [] [] [] [] [] _ rfl rfl (by kernel_rfl) rfl impl_nil (⟨congrArg (fun x : UInt64 => Value.int .u64 (x.toNat : Int)) (hexu_l (by omega) (by omega)), rfl, rfl⟩)
      · replace h6 := of_decide_eq_false h6
        refine c_skip ?_
        refine e_then ?_
        refine c_seq ?_
        refine c_reg ?_
        refine asg (.int _ _) rfl ?_
        refine jt ?_
        refine c_ret ?_
        exact j_end (own0 := []) (ro0 := []) (.inl rfl) rfl (hr1 Tryd.results69 (rvt (v := (.int _ _)) rfl)) [] [] [] [] [] _ rfl rfl (by kernel_rfl) rfl impl_nil (⟨congrArg (fun x : UInt64 => Value.int .u64 (x.toNat : Int)) (hexu_o (by omega) (by omega)), rfl, rfl⟩)
    · replace h5 := of_decide_eq_false h5
      refine g_off rfl rfl rfl rfl ?_
      refine g_off rfl rfl rfl rfl ?_
      refine pkf (.bool _) rfl rfl ?_
      refine jt ?_
      refine c_false rfl ?_
      refine c_skip ?_
      refine e_then ?_
      refine c_seq ?_
      refine c_reg ?_
      refine asg (.int _ _) rfl ?_
      refine jt ?_
      refine c_ret ?_
      exact j_end (own0 := []) (ro0 := []) (.inl rfl) rfl (hr1 Tryd.results69 (rvt (v := (.int _ _)) rfl)) [] [] [] [] [] _ rfl rfl (by kernel_rfl) rfl impl_nil (⟨congrArg (fun x : UInt64 => Value.int .u64 (x.toNat : Int)) (hexu_o (by omega) (by omega)), rfl, rfl⟩)
theorem wordEnd_ct (s : Str) (p : Nat) (hs : s.length ≤ 140737488351232) (hp : p ≤ s.length) : Ct Tryd.prog 35 [strV s, .int .i64 (p : Int)] [] [] (fun v o r => v = .int .i64 ((p + wlen s p : Nat) : Int) ∧ o = [] ∧ r = []) := by
  refine ct_enter Tryd.func35 rfl Tryd.ntmps35 (by kernel_rfl) rfl fun w0 => ?_
  refine c_seq ?_
  refine c_reg ?_
  refine asg (.int _ _) rfl ?_
  refine jt ?_
  refine c_seq ?_
  refine c_block ?_
  refine c_loop (σ := Nat) (fun i => i ≤ s.length ∧ i + wlen s i = p + wlen s p) (fun i => s.length - i) (fun i => [(1, .int .i64 (i : Int))]) (fun i => []) (fun i => []) [1, 5, 6, 7, 8, 9, 10, 11, 12, 13, 14, 15, 16] p (⟨hp, rfl⟩) ⟨rfl, trivial⟩ rfl rfl ?_
  rintro i g1 hI1
  try dsimp only at hI1 ⊢
  refine c_seq ?_
  refine c_seq ?_
  refine c_reg ?_
  refine mv (.int _ _) rfl ?_
  refine mv (.string _) rfl ?_
  refine lenT (s := s) rfl Tryd.underlying9 ?_
  refine cmp _ rfl rfl rfl ?_
  refine mv (.bool _) rfl ?_
  refine jsplit 9 rfl (fun h1 => ?_) (fun h1 => ?_)
  · replace h1 := of_decide_eq_true h1
    refine g_on rfl rfl rfl ?_
    refine mv (.string _) rfl ?_
    refine g_on rfl rfl rfl ?_
    refine mv (.int _ _) rfl ?_
    refine g_on rfl rfl rfl ?_
    refine idxT (s := s) i rfl rfl Tryd.underlying9 rfl (by first | omega | (simp; done) | (simp; omega) | (simp at *; omega)) ?_
    refine g_on rfl rfl rfl ?_
    refine equ8 (a := (List.getD s i 0)) (b := (32 : UInt8)) _ rfl rfl rfl ?_
    refine pkt (.bool _) rfl rfl ?_
    refine jt ?_
    refine c_cond rfl (fun h2 => ?_) (fun h2 => ?_)
    · replace h2 := ndt h2
      refine c_skip ?_
      refine e_then ?_
      refine c_block ?_
      refine c_reg ?_
      refine mv (.int _ _) rfl ?_
      refine addi rfl rfl rfl (by omega) ?_
      refine asg (.int _ _) rfl ?_
      refine jn ?_
      refine e_in ?_
      exact e_loop (i + 1) (⟨by omega, by have := wlen_step (s := s) (i := i) (by omega) (by assumption); omega⟩) (by (try dsimp only); omega) (⟨rfl, trivial⟩) rfl rfl rfl
    · replace h2 := ndf h2
      refine c_exit rfl ?_
      refine e_then ?_
      refine c_seq ?_
      refine c_reg ?_
      refine mv (.int _ _) rfl ?_
      refine asg (.int _ _) rfl ?_
      refine jt ?_
      refine c_ret ?_
      exact j_end (own0 := []) (ro0 := []) (.inl rfl) rfl (hr1 Tryd.results35 (rvt (v := (.int _ _)) rfl)) [] [] [] [] [] _ rfl rfl (by kernel_rfl) rfl impl_nil (⟨congrArg (Value.int _) (by have := wlen_end (s := s) (i := i) (fun hh => by first | omega | exact hh.2 (by assumption)); omega), rfl, rfl⟩)
  · replace h1 := of_decide_eq_false h1
    refine g_off rfl rfl rfl rfl ?_
    refine g_off rfl rfl rfl rfl ?_
    refine g_off rfl rfl rfl rfl ?_
    refine g_off rfl rfl rfl rfl ?_
    refine pkf (.bool _) rfl rfl ?_
    refine jt ?_
    refine c_false rfl ?_
    refine c_exit rfl ?_
    refine e_then ?_
    refine c_seq ?_
    refine c_reg ?_
    refine mv (.int _ _) rfl ?_
    refine asg (.int _ _) rfl ?_
    refine jt ?_
    refine c_ret ?_
    exact j_end (own0 := []) (ro0 := []) (.inl rfl) rfl (hr1 Tryd.results35 (rvt (v := (.int _ _)) rfl)) [] [] [] [] [] _ rfl rfl (by kernel_rfl) rfl impl_nil (⟨congrArg (Value.int _) (by have := wlen_end (s := s) (i := i) (fun hh => by first | omega | exact hh.2 (by assumption)); omega), rfl, rfl⟩)
set_option maxRecDepth 20000 in
set_option maxHeartbeats 4000000 in
theorem rbegin_bad (b : Nat) (s : Str) (p k : Nat) : Ct Tryd.prog 64 [.pointer (some ⟨b, 0, none⟩)] [[(b, .cells (cat [pt s, p1 (.int .i64 ((p : Nat) : Int)), p1 (.int .i64 ((k : Nat) : Int))]) 66)]] [] (fun v o r => v = .int .i64 (-1) ∧ o = [[(b, .cells (cat [pt s, p1 (.int .i64 ((p : Nat) : Int)), p1 (.int .i64 ((k : Nat) : Int))]) 66)]] ∧ r = []) := by
  refine ct_enter Tryd.func64 rfl Tryd.ntmps64 (by kernel_rfl) rfl fun w0 => ?_
  refine c_seq ?_
  refine c_reg ?_
  refine asg (.int _ _) rfl ?_
  refine jt ?_
  refine c_seq ?_
  refine c_seq ?_
  refine c_reg ?_
  refine mv (.pointer _) rfl ?_
  refine nlc rfl ?_
  refine fad rfl Tryd.underlying66 rfl ty3.sz ?_
  refine ldp 0 2 _ rfl rfl rfl rfl ty3 ?_
  refine cmp true rfl rfl (by simp only [cmpV]; exact congrArg some (decide_eq_true (by omega))) ?_
  refine jt ?_
  refine c_true rfl ?_
  refine c_seq ?_
  refine c_reg ?_
  refine asg (.int _ _) rfl ?_
  refine jt ?_
  refine c_ret ?_
  exact j_end (own0 := [[(b, .cells (cat [pt s, p1 (.int .i64 ((p : Nat) : Int)), p1 (.int .i64 ((k : Nat) : Int))]) 66)]]) (ro0 := []) (.inl rfl) rfl (hr1 Tryd.results64 (rvt (v := (.int _ _)) rfl)) [0] [] [_] [] [] _ rfl rfl (by kernel_rfl) rfl impl_nil (⟨rfl, rfl, rfl⟩)
set_option maxRecDepth 20000 in
set_option maxHeartbeats 4000000 in
theorem rbegin_ct (b : Nat) (s : Str) (p : Nat) (hs : s.length ≤ 140737488351232) (hp : p ≤ s.length) : Ct Tryd.prog 64 [.pointer (some ⟨b, 0, none⟩)] [[(b, .cells (cat [pt s, p1 (.int .i64 ((p : Nat) : Int)), p1 (.int .i64 (-1))]) 66)]] [] (fun v o r => (blk s p = true ∧ v = .int .i64 ((p + 1 : Nat) : Int) ∧ o = [[(b, .cells (cat [pt s, p1 (.int .i64 ((p : Nat) : Int)), p1 (.int .i64 (-1))]) 66)]] ∧ r = []) ∨ (blk s p = false ∧ v = .int .i64 (-1) ∧ o = [[(b, .cells (cat [pt s, p1 (.int .i64 ((p : Nat) : Int)), p1 (.int .i64 ((p : Nat) : Int))]) 66)]] ∧ r = [])) := by
  refine ct_enter Tryd.func64 rfl Tryd.ntmps64 (by kernel_rfl) rfl fun w0 => ?_
  refine c_seq ?_
  refine c_reg ?_
  refine asg (.int _ _) rfl ?_
  refine jt ?_
  refine c_seq ?_
  refine c_seq ?_
  refine c_reg ?_
  refine mv (.pointer _) rfl ?_
  refine nlc rfl ?_
  refine fad rfl Tryd.underlying66 rfl ty3.sz ?_
  refine ldp 0 2 _ rfl rfl rfl rfl ty3 ?_
  refine cmp false rfl rfl rfl ?_
  refine jt ?_
  refine c_false rfl ?_
  refine c_skip ?_
  refine e_then ?_
  refine c_seq ?_
  refine c_seq ?_
  refine c_dr [_] [] [(0, 0), (1, 0), (2, 0), (3, 0), (4, 0), (5, 0), (6, 0), (7, 0), (8, 0), (9, 0), (10, 0), (11, 0), (12, 0), (13, 0), (14, 0), (15, 0), (16, 0), (17, 0), (18, 0), (19, 0), (20, 0), (21, 0)] follows (by kernel_rfl) calm_body (keepS [0] rfl) ?_
  refine mv (.pointer _) rfl ?_
  refine nlc rfl ?_
  refine fad rfl Tryd.underlying66 rfl ty3.sz ?_
  refine ldp 0 1 _ rfl rfl rfl rfl ty3 ?_
  refine mv (.pointer _) rfl ?_
  refine nlc rfl ?_
  refine fad rfl Tryd.underlying66 rfl ty9.sz ?_
  refine ldp 0 0 _ rfl rfl rfl rfl ty9 ?_
  refine lenT (s := s) rfl Tryd.underlying9 ?_
  refine cmp _ rfl rfl rfl ?_
  refine mv (.bool _) rfl ?_
  refine jsplit 18 rfl (fun h1 => ?_) (fun h1 => ?_)
  · replace h1 := of_decide_eq_true h1
    refine g_off rfl rfl rfl rfl ?_
    refine g_off rfl rfl rfl rfl ?_
    refine g_off rfl rfl rfl rfl ?_
    refine g_off rfl rfl rfl rfl ?_
    refine g_off rfl rfl rfl rfl ?_
    refine g_off rfl rfl rfl rfl ?_
    refine g_off rfl rfl rfl rfl ?_
    refine g_off rfl rfl rfl rfl ?_
    refine g_off rfl rfl rfl rfl ?_
    refine g_off rfl rfl rfl rfl ?_
    refine pkt (.bool _) rfl rfl ?_
    refine jt ?_
    refine c_true rfl ?_
    refine c_seq ?_
    refine c_reg ?_
    refine mv (.pointer _) rfl ?_
    refine mv (.pointer _) rfl ?_
    refine nlc rfl ?_
    refine fad rfl Tryd.underlying66 rfl ty3.sz ?_
    refine ldp 0 1 _ rfl rfl rfl rfl ty3 ?_
    refine nlc rfl ?_
    refine fad rfl Tryd.underlying66 rfl ty3.sz ?_
    refine stp 0 2 _ (p1 (.int .i64 ((p : Nat) : Int))) rfl rfl rfl rfl rfl rfl ty3 ⟨trivial, ?_⟩
    refine jt ?_
    refine c_seq ?_
    refine c_reg ?_
    refine asg (.int _ _) rfl ?_
    refine jt ?_
    refine c_ret ?_
    exact j_end (own0 := [[(b, .cells (cat [pt s, p1 (.int .i64 ((p : Nat) : Int)), p1 (.int .i64 (-1))]) 66)]]) (ro0 := []) (.inl rfl) rfl (hr1 Tryd.results64 (rvt (v := (.int _ _)) rfl)) [0] [] [_] [] [] _ rfl rfl (by kernel_rfl) rfl impl_nil (.inr ⟨blk_out (by omega), rfl, rfl, rfl⟩)
  · replace h1 := of_decide_eq_false h1
    refine g_on rfl rfl rfl ?_
    refine mv (.pointer _) rfl ?_
    refine g_on rfl rfl rfl ?_
    refine nlc rfl ?_
    refine g_on rfl rfl rfl ?_
    refine fad rfl Tryd.underlying66 rfl ty9.sz ?_
    refine g_on rfl rfl rfl ?_
    refine ldp 0 0 _ rfl rfl rfl rfl ty9 ?_
    refine g_on rfl rfl rfl ?_
    refine mv (.pointer _) rfl ?_
    refine g_on rfl rfl rfl ?_
    refine nlc rfl ?_
    refine g_on rfl rfl rfl ?_
    refine fad rfl Tryd.underlying66 rfl ty3.sz ?_
    refine g_on rfl rfl rfl ?_
    refine ldp 0 1 _ rfl rfl rfl rfl ty3 ?_
    refine g_on rfl rfl rfl ?_
    refine idxT (s := s) p rfl rfl Tryd.underlying9 rfl (by first | omega | (simp; done) | (simp; omega) | (simp at *; omega)) ?_
    refine g_on rfl rfl rfl ?_
    refine equ8 (a := (List.getD s p 0)) (b := (32 : UInt8)) _ rfl rfl rfl ?_
    refine pkf (.bool _) rfl rfl ?_
    refine jt ?_
    refine c_cond rfl (fun h2 => ?_) (fun h2 => ?_)
    · replace h2 := ndt h2
      refine c_seq ?_
      refine c_reg ?_
      refine mv (.pointer _) rfl ?_
      refine mv (.pointer _) rfl ?_
      refine nlc rfl ?_
      refine fad rfl Tryd.underlying66 rfl ty3.sz ?_
      refine ldp 0 1 _ rfl rfl rfl rfl ty3 ?_
      refine nlc rfl ?_
      refine fad rfl Tryd.underlying66 rfl ty3.sz ?_
      refine stp 0 2 _ (p1 (.int .i64 ((p : Nat) : Int))) rfl rfl rfl rfl rfl rfl ty3 ⟨trivial, ?_⟩
      refine jt ?_
      refine c_seq ?_
      refine c_reg ?_
      refine asg (.int _ _) rfl ?_
      refine jt ?_
      refine c_ret ?_
      exact j_end (own0 := [[(b, .cells (cat [pt s, p1 (.int .i64 ((p : Nat) : Int)), p1 (.int .i64 (-1))]) 66)]]) (ro0 := []) (.inl rfl) rfl (hr1 Tryd.results64 (rvt (v := (.int _ _)) rfl)) [0] [] [_] [] [] _ rfl rfl (by kernel_rfl) rfl impl_nil (.inr ⟨blk_no (by assumption), rfl, rfl, rfl⟩)
    · replace h2 := ndf h2
      refine c_skip ?_
      refine e_then ?_
      refine c_seq ?_
      refine c_reg ?_
      refine mv (.pointer _) rfl ?_
      refine nlc rfl ?_
      refine fad rfl Tryd.underlying66 rfl ty3.sz ?_
      refine ldp 0 1 _ rfl rfl rfl rfl ty3 ?_
      refine addi rfl rfl rfl (by omega) ?_
      refine asg (.int _ _) rfl ?_
      refine jt ?_
      refine c_ret ?_
      exact j_end (own0 := [[(b, .cells (cat [pt s, p1 (.int .i64 ((p : Nat) : Int)), p1 (.int .i64 (-1))]) 66)]]) (ro0 := []) (.inl rfl) rfl (hr1 Tryd.results64 (rvt (v := (.int _ _)) rfl)) [0] [] [_] [] [] _ rfl rfl (by kernel_rfl) rfl impl_nil (.inl ⟨blk_yes (by omega) (by assumption), rfl, rfl, rfl⟩)
set_option maxRecDepth 20000 in
set_option maxHeartbeats 4000000 in
theorem rnum_ct (w : Str) (m : UInt64) (hw : w.length ≤ 140737488351232) (hm : m.toNat < 1000000000000000000) : Ct Tryd.prog 68 [strV w, .int .u64 (m.toNat : Int)] [] [tPow10 3] (fun v o r => ∃ (n : UInt64) (t : Bool), (t = true → pnum 10 w = some n.toNat ∧ n.toNat ≤ m.toNat) ∧ (t = false → ∀ k, pnum 10 w = some k → ¬ k ≤ m.toNat) ∧ v = .tuple #[.int .u64 (n.toNat : Int), .bool t] ∧ o = [] ∧ r = []) := by
  refine ct_enter Tryd.func68 rfl Tryd.ntmps68 (by kernel_rfl) rfl fun w0 => ?_
  refine c_seq ?_
  refine c_reg ?_
  refine asg (.int _ _) rfl ?_
  refine asg (.bool _) rfl ?_
  refine jt ?_
  refine c_seq ?_
  refine c_reg ?_
  refine asg (.int _ _) rfl ?_
  refine jt ?_
  refine c_seq ?_
  refine c_seq ?_
  refine c_reg ?_
  refine asg (.int _ _) rfl ?_
  refine jt ?_
  refine c_block ?_
  refine c_loop (σ := Nat × UInt64) (fun (i, n) => NB w i n) (fun (i, n) => w.length - i) (fun (i, n) => [(7, .int .i64 (i : Int)), (6, .int .u64 (n.toNat : Int))]) (fun (i, n) => []) (fun (i, n) => [tPow10 3]) [4, 5, 6, 7, 8, 9, 10, 11, 12, 13, 14, 15, 16, 17, 18, 19, 20, 21, 22, 23, 24, 25, 26, 27, 28, 29, 30, 31, 32, 33, 34, 35] (0, 0) (NB.start w) ⟨rfl, rfl, trivial⟩ rfl rfl ?_
  rintro ⟨i, n⟩ g1 hI1
  try dsimp only at hI1 ⊢
  have HLE := hI1.le
  have HI18 := hI1.i18
  refine c_seq ?_
  refine c_seq ?_
  refine c_reg ?_
  refine mv (.int _ _) rfl ?_
  refine mv (.string _) rfl ?_
  refine lenT (s := w) rfl Tryd.underlying9 ?_
  refine cmp _ rfl rfl rfl ?_
  refine jt ?_
  refine c_cond rfl (fun h1 => ?_) (fun h1 => ?_)
  · replace h1 := of_decide_eq_true h1
    refine c_skip ?_
    refine e_then ?_
    refine c_seq ?_
    refine c_block ?_
    refine c_seq ?_
    refine c_seq ?_
    refine c_reg ?_
    refine mv (.string _) rfl ?_
    refine mv (.int _ _) rfl ?_
    refine idxT (s := w) i rfl rfl Tryd.underlying9 rfl (by first | omega | (simp; done) | (simp; omega) | (simp at *; omega)) ?_
    refine cmp _ rfl rfl rfl ?_
    refine mv (.bool _) rfl ?_
    refine jsplit 18 rfl (fun h2 => ?_) (fun h2 => ?_)
    · replace h2 := of_decide_eq_true h2
      refine g_off rfl rfl rfl rfl ?_
      refine g_off rfl rfl rfl rfl ?_
      refine g_off rfl rfl rfl rfl ?_
      refine g_off rfl rfl rfl rfl ?_
      refine pkt (.bool _) rfl rfl ?_
      refine mv (.bool _) rfl ?_
      refine g_off rfl rfl rfl rfl ?_
      refine g_off rfl rfl rfl rfl ?_
      refine pkt (.bool _) rfl rfl ?_
      refine jt ?_
      refine c_true rfl ?_
      refine c_seq ?_
      refine c_reg ?_
      refine asg (.int _ _) rfl ?_
      refine asg (.bool _) rfl ?_
      refine jt ?_
      refine c_ret ?_
      exact j_end (own0 := []) (ro0 := [tPow10 3]) (.inl rfl) rfl (hr2 Tryd.results68 (rvt (v := (.int _ _)) rfl) (rvt (v := (.bool _)) rfl)) [] [] [] [] [] _ rfl rfl (by kernel_rfl) rfl impl_nil (⟨0, false, (fun h => by cases h), (fun _ k hk => NB.no hI1 (by omega) (by omega) hm hk), rfl, rfl, rfl⟩)
    · replace h2 := of_decide_eq_false h2
      refine g_on rfl rfl rfl ?_
      refine mv (.string _) rfl ?_
      refine g_on rfl rfl rfl ?_
      refine mv (.int _ _) rfl ?_
      refine g_on rfl rfl rfl ?_
      refine idxT (s := w) i rfl rfl Tryd.underlying9 rfl (by first | omega | (simp; done) | (simp; omega) | (simp at *; omega)) ?_
      refine g_on rfl rfl rfl ?_
      refine cmp _ rfl rfl rfl ?_
      refine pkf (.bool _) rfl rfl ?_
      refine mv (.bool _) rfl ?_
      refine jsplit 24 rfl (fun h3 => ?_) (fun h3 => ?_)
      · replace h3 := of_decide_eq_true h3
        refine g_off rfl rfl rfl rfl ?_
        refine g_off rfl rfl rfl rfl ?_
        refine pkt (.bool _) rfl rfl ?_
        refine jt ?_
        refine c_true rfl ?_
        refine c_seq ?_
        refine c_reg ?_
        refine asg (.int _ _) rfl ?_
        refine asg (.bool _) rfl ?_
        refine jt ?_
        refine c_ret ?_
        exact j_end (own0 := []) (ro0 := [tPow10 3]) (.inl rfl) rfl (hr2 Tryd.results68 (rvt (v := (.int _ _)) rfl) (rvt (v := (.bool _)) rfl)) [] [] [] [] [] _ rfl rfl (by kernel_rfl) rfl impl_nil (⟨0, false, (fun h => by cases h), (fun _ k hk => NB.no hI1 (by omega) (by omega) hm hk), rfl, rfl, rfl⟩)
      · replace h3 := of_decide_eq_false h3
        refine g_on rfl rfl rfl ?_
        refine mv (.int _ _) rfl ?_
        refine g_on rfl rfl rfl ?_
        refine cmp _ rfl rfl rfl ?_
        refine pkf (.bool _) rfl rfl ?_
        refine jt ?_
        refine c_cond rfl (fun h4 => ?_) (fun h4 => ?_)
        · replace h4 := of_decide_eq_true h4
          refine c_seq ?_
          refine c_reg ?_
          refine asg (.int _ _) rfl ?_
          refine asg (.bool _) rfl ?_
          refine jt ?_
          refine c_ret ?_
          exact j_end (own0 := []) (ro0 := [tPow10 3]) (.inl rfl) rfl (hr2 Tryd.results68 (rvt (v := (.int _ _)) rfl) (rvt (v := (.bool _)) rfl)) [] [] [] [] [] _ rfl rfl (by kernel_rfl) rfl impl_nil (⟨0, false, (fun h => by cases h), (fun _ k hk => NB.no hI1 (by omega) (by omega) hm hk), rfl, rfl, rfl⟩)
        · replace h4 := of_decide_eq_false h4
          refine c_skip ?_
          refine e_then ?_
          refine c_reg ?_
          refine mv (.int _ _) rfl ?_
          refine mulU64 (a := n) (b := (10 : UInt64)) rfl rfl ?_
          refine mv (.string _) rfl ?_
          refine mv (.int _ _) rfl ?_
          refine idxT (s := w) i rfl rfl Tryd.underlying9 rfl (by first | omega | (simp; done) | (simp; omega) | (simp at *; omega)) ?_
          refine subU8 (a := (List.getD w i 0)) (b := (48 : UInt8)) rfl rfl ?_
          refine cvNU64 (n := ((List.getD w i 0) - (48 : UInt8)).toNat) rfl Tryd.underlying5 Tryd.underlying23 ?_
          refine addU64 (a := (n * (10 : UInt64))) (b := (UInt64.ofNat (((List.getD w i 0) - (48 : UInt8)).toNat))) rfl rfl ?_
          refine asg (.int _ _) rfl ?_
          refine jn ?_
          refine e_in ?_
          refine e_then ?_
          refine c_reg ?_
          refine mv (.int _ _) rfl ?_
          refine addi rfl rfl rfl (by omega) ?_
          refine asg (.int _ _) rfl ?_
          refine jn ?_
          exact e_loop (i + 1, ((n * (10 : UInt64)) + (UInt64.ofNat (((List.getD w i 0) - (48 : UInt8)).toNat)))) (NB.go hI1 (by omega) (by omega) (by omega) (by omega)) (by show w.length - (i + 1) < w.length - i; omega) (⟨rfl, rfl, trivial⟩) rfl rfl rfl
  · replace h1 := of_decide_eq_false h1
    refine c_exit rfl ?_
    refine e_then ?_
    refine c_seq ?_
    refine c_reg ?_
    refine mv (.int _ _) rfl ?_
    refine mv (.int _ _) rfl ?_
    refine mv (.int _ _) rfl ?_
    refine cmp _ rfl rfl rfl ?_
    refine mv (.bool _) rfl ?_
    refine jsplit 40 rfl (fun h5 => ?_) (fun h5 => ?_)
    · replace h5 := of_decide_eq_true h5
      refine g_on rfl rfl rfl ?_
      refine mv (.int _ _) rfl ?_
      refine g_on rfl rfl rfl ?_
      refine cal (decimal_ct n) [] [] [] rfl rfl rfl (by kernel_rfl) (impl_cons (impl_at 0 rfl) impl_nil) rfl ?_; rintro _ _ _ ⟨rfl, rfl, rfl⟩; refine ⟨trivial, ?_⟩
      refine g_on rfl rfl rfl ?_
      refine mv (.string _) rfl ?_
      refine g_on rfl rfl rfl ?_
      refine scmp (a := (fmtN 10 n.toNat)) (b := w) _ rfl rfl Tryd.underlying9 rfl ?_
      refine pkt (.bool _) rfl rfl ?_
      refine asg (.int _ _) rfl ?_
      refine asg (.bool _) rfl ?_
      refine jt ?_
      refine c_ret ?_
      exact j_end (own0 := []) (ro0 := [tPow10 3]) (.inl rfl) rfl (hr2 Tryd.results68 (rvt (v := (.int _ _)) rfl) (rvt (v := (.bool _)) rfl)) [] [] [] [] [] _ rfl rfl (by kernel_rfl) rfl impl_nil (⟨n, _, (fun h => ⟨NB.yes hI1 (by omega) (of_decide_eq_true h), by omega⟩), (fun h k hk => NB.bad hI1 (by omega) (fun hh => of_decide_eq_false h hh.2) hk), rfl, rfl, rfl⟩)
    · replace h5 := of_decide_eq_false h5
      refine g_off rfl rfl rfl rfl ?_
      refine g_off rfl rfl rfl rfl ?_
      refine g_off rfl rfl rfl rfl ?_
      refine g_off rfl rfl rfl rfl ?_
      refine pkf (.bool _) rfl rfl ?_
      refine asg (.int _ _) rfl ?_
      refine asg (.bool _) rfl ?_
      refine jt ?_
      refine c_ret ?_
      exact j_end (own0 := []) (ro0 := [tPow10 3]) (.inl rfl) rfl (hr2 Tryd.results68 (rvt (v := (.int _ _)) rfl) (rvt (v := (.bool _)) rfl)) [] [] [] [] [] _ rfl rfl (by kernel_rfl) rfl impl_nil (⟨n, false, (fun h => by cases h), (fun _ k hk => NB.bad hI1 (by omega) (fun hh => by omega) hk), rfl, rfl, rfl⟩)
theorem bits_ct (w : Str) (hw : w.length ≤ 140737488351232) : Ct Tryd.prog 67 [strV w] [] [] (fun v o r => ∃ (n : UInt64) (t : Bool), (t = true → w.length = 2 * 8 ∧ hexok w = true ∧ (⟨n⟩ : F64) = degB w) ∧ (t = false → ¬(w.length = 2 * 8 ∧ hexok w = true)) ∧ v = .tuple #[.int .u64 (n.toNat : Int), .bool t] ∧ o = [] ∧ r = []) := by
  refine ct_enter Tryd.func67 rfl Tryd.ntmps67 (by kernel_rfl) rfl fun w0 => ?_
  refine c_seq ?_
  refine c_reg ?_
  refine asg (.int _ _) rfl ?_
  refine asg (.bool _) rfl ?_
  refine jt ?_
  refine c_seq ?_
  refine c_reg ?_
  refine asg (.int _ _) rfl ?_
  refine jt ?_
  refine c_seq ?_
  refine c_seq ?_
  refine c_reg ?_
  refine asg (.int _ _) rfl ?_
  refine jt ?_
  refine c_block ?_
  refine c_loop (σ := Nat × UInt64) (fun (i, n) => XB w i n) (fun (i, n) => w.length - i) (fun (i, n) => [(5, .int .i64 (i : Int)), (4, .int .u64 (n.toNat : Int))]) (fun (i, n) => []) (fun (i, n) => []) [2, 3, 4, 5, 6, 7, 8, 9, 10, 11, 12, 13, 14, 15, 16, 17, 18, 19, 20, 21, 22, 23, 24, 25, 26] (0, 0) (XB.start w) ⟨rfl, rfl, trivial⟩ rfl rfl ?_
  rintro ⟨i, n⟩ g1 hI1
  try dsimp only at hI1 ⊢
  have HLE := hI1.le
  have HI16 := hI1.i16
  refine c_seq ?_
  refine c_seq ?_
  refine c_reg ?_
  refine mv (.int _ _) rfl ?_
  refine mv (.string _) rfl ?_
  refine lenT (s := w) rfl Tryd.underlying9 ?_
  refine cmp _ rfl rfl rfl ?_
  refine jt ?_
  refine c_cond rfl (fun h1 => ?_) (fun h1 => ?_)
  · replace h1 := of_decide_eq_true h1
    refine c_skip ?_
    refine e_then ?_
    refine c_seq ?_
    refine c_block ?_
    refine c_seq ?_
    refine c_reg ?_
    refine mv (.string _) rfl ?_
    refine mv (.int _ _) rfl ?_
    refine idxT (s := w) i rfl rfl Tryd.underlying9 rfl (by first | omega | (simp; done) | (simp; omega) | (simp at *; omega)) ?_
    refine cal (digit_ct (List.getD w i 0)) [] [] [] rfl rfl rfl (by kernel_rfl) impl_nil rfl ?_; rintro _ _ _ ⟨rfl, rfl, rfl⟩; refine ⟨trivial, ?_⟩
    refine asg (.int _ _) rfl ?_
    refine jt ?_
    refine c_seq ?_
    refine c_seq ?_
    refine c_reg ?_
    refine mv (.int _ _) rfl ?_
    refine cmp _ rfl rfl rfl ?_
    refine mv (.bool _) rfl ?_
    refine jsplit 19 rfl (fun h2 => ?_) (fun h2 => ?_)
    · replace h2 := of_decide_eq_true h2
      refine g_off rfl rfl rfl rfl ?_
      refine g_off rfl rfl rfl rfl ?_
      refine pkt (.bool _) rfl rfl ?_
      refine jt ?_
      refine c_true rfl ?_
      refine c_seq ?_
      refine c_reg ?_
      refine asg (.int _ _) rfl ?_
      refine asg (.bool _) rfl ?_
      refine jt ?_
      refine c_ret ?_
      exact j_end (own0 := []) (ro0 := []) (.inl rfl) rfl (hr2 Tryd.results67 (rvt (v := (.int _ _)) rfl) (rvt (v := (.bool _)) rfl)) [] [] [] [] [] _ rfl rfl (by kernel_rfl) rfl impl_nil (⟨0, false, (fun h => by cases h), (fun _ => XB.no hI1 (by omega) (by omega)), rfl, rfl, rfl⟩)
    · replace h2 := of_decide_eq_false h2
      refine g_on rfl rfl rfl ?_
      refine mv (.int _ _) rfl ?_
      refine g_on rfl rfl rfl ?_
      refine cmp _ rfl rfl rfl ?_
      refine pkf (.bool _) rfl rfl ?_
      refine jt ?_
      refine c_cond rfl (fun h3 => ?_) (fun h3 => ?_)
      · replace h3 := of_decide_eq_true h3
        refine c_seq ?_
        refine c_reg ?_
        refine asg (.int _ _) rfl ?_
        refine asg (.bool _) rfl ?_
        refine jt ?_
        refine c_ret ?_
        exact j_end (own0 := []) (ro0 := []) (.inl rfl) rfl (hr2 Tryd.results67 (rvt (v := (.int _ _)) rfl) (rvt (v := (.bool _)) rfl)) [] [] [] [] [] _ rfl rfl (by kernel_rfl) rfl impl_nil (⟨0, false, (fun h => by cases h), (fun _ => XB.no hI1 (by omega) (by omega)), rfl, rfl, rfl⟩)
      · replace h3 := of_decide_eq_false h3
        refine c_skip ?_
        refine e_then ?_
        refine c_reg ?_
        refine mv (.int _ _) rfl ?_
        refine mulU64 (a := n) (b := (16 : UInt64)) rfl rfl ?_
        refine mv (.int _ _) rfl ?_
        refine addU64 (a := (n * (16 : UInt64))) (b := (hexu (List.getD w i 0))) rfl rfl ?_
        refine asg (.int _ _) rfl ?_
        refine jn ?_
        refine e_in ?_
        refine e_then ?_
        refine c_reg ?_
        refine mv (.int _ _) rfl ?_
        refine addi rfl rfl rfl (by omega) ?_
        refine asg (.int _ _) rfl ?_
        refine jn ?_
        exact e_loop (i + 1, ((n * (16 : UInt64)) + (hexu (List.getD w i 0)))) (XB.go hI1 (by omega) (by omega) (by omega)) (by show w.length - (i + 1) < w.length - i; omega) (⟨rfl, rfl, trivial⟩) rfl rfl rfl
  · replace h1 := of_decide_eq_false h1
    refine c_exit rfl ?_
    refine e_then ?_
    refine c_seq ?_
    refine c_reg ?_
    refine mv (.int _ _) rfl ?_
    refine mv (.string _) rfl ?_
    refine lenT (s := w) rfl Tryd.underlying9 ?_
    refine cmp _ rfl rfl rfl ?_
    refine asg (.int _ _) rfl ?_
    refine asg (.bool _) rfl ?_
    refine jt ?_
    refine c_ret ?_
    exact j_end (own0 := []) (ro0 := []) (.inl rfl) rfl (hr2 Tryd.results67 (rvt (v := (.int _ _)) rfl) (rvt (v := (.bool _)) rfl)) [] [] [] [] [] _ rfl rfl (by kernel_rfl) rfl impl_nil (⟨n, _, (fun h => XB.fin hI1 (by omega) (by have := of_decide_eq_true h; omega)), (fun h hh => by have := of_decide_eq_false h; have := hh.1; omega), rfl, rfl, rfl⟩)
theorem qend_ct (s : Str) (a : Nat) (hs : s.length ≤ 140737488351232) (ha : a ≤ s.length) : Ct Tryd.prog 65 [strV s, .int .i64 (a : Int)] [] [] (fun v o r => v = .int .i64 ((qend s a : Nat) : Int) ∧ o = [] ∧ r = []) := by
  refine ct_enter Tryd.func65 rfl Tryd.ntmps65 (by kernel_rfl) rfl fun w0 => ?_
  refine c_seq ?_
  refine c_reg ?_
  refine asg (.int _ _) rfl ?_
  refine jt ?_
  refine c_seq ?_
  refine c_seq ?_
  refine c_reg ?_
  refine mv (.int _ _) rfl ?_
  refine mv (.string _) rfl ?_
  refine lenT (s := s) rfl Tryd.underlying9 ?_
  refine cmp _ rfl rfl rfl ?_
  refine mv (.bool _) rfl ?_
  refine jsplit 10 rfl (fun h1 => ?_) (fun h1 => ?_)
  · replace h1 := of_decide_eq_true h1
    refine g_off rfl rfl rfl rfl ?_
    refine g_off rfl rfl rfl rfl ?_
    refine g_off rfl rfl rfl rfl ?_
    refine g_off rfl rfl rfl rfl ?_
    refine pkt (.bool _) rfl rfl ?_
    refine jt ?_
    refine c_true rfl ?_
    refine c_seq ?_
    refine c_reg ?_
    refine mv (.int _ _) rfl ?_
    refine asg (.int _ _) rfl ?_
    refine jt ?_
    refine c_ret ?_
    exact j_end (own0 := []) (ro0 := []) (.inl rfl) rfl (hr1 Tryd.results65 (rvt (v := (.int _ _)) rfl)) [] [] [] [] [] _ rfl rfl (by kernel_rfl) rfl impl_nil (⟨congrArg (fun x : Nat => Value.int .i64 (x : Int)) ((qend_no (fun hh => by first | omega | exact absurd hh.2 (by assumption))).symm), rfl, rfl⟩)
  · replace h1 := of_decide_eq_false h1
    refine g_on rfl rfl rfl ?_
    refine mv (.string _) rfl ?_
    refine g_on rfl rfl rfl ?_
    refine mv (.int _ _) rfl ?_
    refine g_on rfl rfl rfl ?_
    refine idxT (s := s) a rfl rfl Tryd.underlying9 rfl (by first | omega | (simp; done) | (simp; omega) | (simp at *; omega)) ?_
    refine g_on rfl rfl rfl ?_
    refine equ8 (a := (List.getD s a 0)) (b := (34 : UInt8)) _ rfl rfl rfl ?_
    refine pkf (.bool _) rfl rfl ?_
    refine jt ?_
    refine c_cond rfl (fun h2 => ?_) (fun h2 => ?_)
    · replace h2 := ndt h2
      refine c_seq ?_
      refine c_reg ?_
      refine mv (.int _ _) rfl ?_
      refine asg (.int _ _) rfl ?_
      refine jt ?_
      refine c_ret ?_
      exact j_end (own0 := []) (ro0 := []) (.inl rfl) rfl (hr1 Tryd.results65 (rvt (v := (.int _ _)) rfl)) [] [] [] [] [] _ rfl rfl (by kernel_rfl) rfl impl_nil (⟨congrArg (fun x : Nat => Value.int .i64 (x : Int)) ((qend_no (fun hh => by first | omega | exact absurd hh.2 (by assumption))).symm), rfl, rfl⟩)
    · replace h2 := ndf h2
      refine c_skip ?_
      refine e_then ?_
      refine c_seq ?_
      refine c_seq ?_
      refine c_reg ?_
      refine mv (.int _ _) rfl ?_
      refine addi rfl rfl rfl (by omega) ?_
      refine asg (.int _ _) rfl ?_
      refine jt ?_
      refine c_block ?_
      refine c_loop (σ := Nat) (fun i => i ≤ s.length + 1 ∧ qstop s i = qstop s (a + 1)) (fun i => s.length + 1 - i) (fun i => [(5, .int .i64 (i : Int))]) (fun i => []) (fun i => []) [4, 5, 19, 20, 21, 22, 23, 24, 25, 26, 27, 28, 29, 30, 31, 32, 33, 34, 35, 36] (a + 1) (⟨by omega, rfl⟩) ⟨rfl, trivial⟩ rfl rfl ?_
      rintro i g1 hI1
      try dsimp only at hI1 ⊢
      refine c_seq ?_
      refine c_seq ?_
      refine c_reg ?_
      refine mv (.int _ _) rfl ?_
      refine mv (.string _) rfl ?_
      refine lenT (s := s) rfl Tryd.underlying9 ?_
      refine cmp _ rfl rfl rfl ?_
      refine jt ?_
      refine c_cond rfl (fun h3 => ?_) (fun h3 => ?_)
      · replace h3 := of_decide_eq_true h3
        refine c_skip ?_
        refine e_then ?_
        refine c_seq ?_
        refine c_block ?_
        refine c_seq ?_
        refine c_seq ?_
        refine c_reg ?_
        refine mv (.string _) rfl ?_
        refine mv (.int _ _) rfl ?_
        refine idxT (s := s) i rfl rfl Tryd.underlying9 rfl (by first | omega | (simp; done) | (simp; omega) | (simp at *; omega)) ?_
        refine equ8 (a := (List.getD s i 0)) (b := (34 : UInt8)) _ rfl rfl rfl ?_
        refine jt ?_
        refine c_cond rfl (fun h4 => ?_) (fun h4 => ?_)
        · replace h4 := of_decide_eq_true h4
          refine c_seq ?_
          refine c_reg ?_
          refine mv (.int _ _) rfl ?_
          refine addi rfl rfl rfl (by omega) ?_
          refine asg (.int _ _) rfl ?_
          refine jt ?_
          refine c_ret ?_
          exact j_end (own0 := []) (ro0 := []) (.inl rfl) rfl (hr1 Tryd.results65 (rvt (v := (.int _ _)) rfl)) [] [] [] [] [] _ rfl rfl (by kernel_rfl) rfl impl_nil (⟨congrArg (fun x : Nat => Value.int .i64 (x : Int)) (qend_at (by omega) (by assumption) hI1.2 (by omega) (by assumption)), rfl, rfl⟩)
        · replace h4 := of_decide_eq_false h4
          refine c_skip ?_
          refine e_then ?_
          refine c_seq ?_
          refine c_reg ?_
          refine mv (.string _) rfl ?_
          refine mv (.int _ _) rfl ?_
          refine idxT (s := s) i rfl rfl Tryd.underlying9 rfl (by first | omega | (simp; done) | (simp; omega) | (simp at *; omega)) ?_
          refine equ8 (a := (List.getD s i 0)) (b := (92 : UInt8)) _ rfl rfl rfl ?_
          refine jt ?_
          refine c_cond rfl (fun h5 => ?_) (fun h5 => ?_)
          · replace h5 := of_decide_eq_true h5
            refine c_reg ?_
            refine mv (.int _ _) rfl ?_
            refine addi rfl rfl rfl (by omega) ?_
            refine asg (.int _ _) rfl ?_
            refine jn ?_
            refine e_in ?_
            refine e_then ?_
            refine c_reg ?_
            refine mv (.int _ _) rfl ?_
            refine addi rfl rfl rfl (by omega) ?_
            refine asg (.int _ _) rfl ?_
            refine jn ?_
            exact e_loop ((i + 1) + 1) (⟨by omega, by rw [show i + 1 + 1 = i + 2 by omega, ← qstop_two (by omega) (by assumption)]; exact hI1.2⟩) (by show s.length + 1 - _ < s.length + 1 - i; omega) (⟨rfl, trivial⟩) rfl rfl rfl
          · replace h5 := of_decide_eq_false h5
            refine c_skip ?_
            refine e_in ?_
            refine e_then ?_
            refine c_reg ?_
            refine mv (.int _ _) rfl ?_
            refine addi rfl rfl rfl (by omega) ?_
            refine asg (.int _ _) rfl ?_
            refine jn ?_
            exact e_loop (i + 1) (⟨by omega, by rw [← qstop_one (by omega) (by assumption) (by assumption)]; exact hI1.2⟩) (by show s.length + 1 - _ < s.length + 1 - i; omega) (⟨rfl, trivial⟩) rfl rfl rfl
      · replace h3 := of_decide_eq_false h3
        refine c_exit rfl ?_
        refine e_then ?_
        refine c_seq ?_
        refine c_reg ?_
        refine mv (.int _ _) rfl ?_
        refine asg (.int _ _) rfl ?_
        refine jt ?_
        refine c_ret ?_
        exact j_end (own0 := []) (ro0 := []) (.inl rfl) rfl (hr1 Tryd.results65 (rvt (v := (.int _ _)) rfl)) [] [] [] [] [] _ rfl rfl (by kernel_rfl) rfl impl_nil (⟨congrArg (fun x : Nat => Value.int .i64 (x : Int)) ((qend_out hI1.2 (by omega)).symm), rfl, rfl⟩)
set_option maxRecDepth 20000 in
set_option maxHeartbeats 4000000 in
theorem utf8_ct (n : UInt64) : Ct Tryd.prog 89 [.int .u64 (n.toNat : Int)] [] [] (fun v o r => v = strV (encv n.toNat) ∧ o = [] ∧ r = []) := by
  refine ct_enter Tryd.func89 rfl Tryd.ntmps89 (by kernel_rfl) rfl fun w0 => ?_
  refine c_seq ?_
  refine c_reg ?_
  refine asg (.string _) rfl ?_
  refine jt ?_
  refine c_seq ?_
  refine c_seq ?_
  refine c_reg ?_
  refine mv (.int _ _) rfl ?_
  refine cmp _ rfl rfl rfl ?_
  refine jt ?_
  refine c_cond rfl (fun h1 => ?_) (fun h1 => ?_)
  · replace h1 := of_decide_eq_true h1
    refine c_seq ?_
    refine c_reg ?_
    refine mv (.int _ _) rfl ?_
    refine cvNU8 (n := n.toNat) rfl Tryd.underlying23 Tryd.underlying5 ?_
    refine bsl (α := UInt8) ([(UInt8.ofNat n.toNat)]) Tryd.underlying50 ty5.sz rfl (by decide) z5 rfl fun b7 => ⟨trivial, ?_⟩
    refine cvBO (o := ⟨false, b7, 1, []⟩) (ys := ([(UInt8.ofNat n.toNat)] : List UInt8)) 0 ⟨by simp, fun _ => rfl, Nat.le_refl _⟩ rfl rfl rfl Tryd.underlying50 Tryd.underlying9 Tryd.underlying5 ?_
    refine asg (.string _) rfl ?_
    refine jt ?_
    refine c_ret ?_
    exact j_end (own0 := []) (ro0 := []) (.inl rfl) rfl (hr1 Tryd.results89 (rvt (v := (.string _)) rfl)) [] [0] [] [_] [] _ rfl rfl (by kernel_rfl) rfl impl_nil (⟨congrArg strV (encv_1 (by omega)), rfl, rfl⟩)
  · replace h1 := of_decide_eq_false h1
    refine c_skip ?_
    refine e_then ?_
    refine c_seq ?_
    refine c_seq ?_
    refine c_reg ?_
    refine mv (.int _ _) rfl ?_
    refine cmp _ rfl rfl rfl ?_
    refine jt ?_
    refine c_cond rfl (fun h2 => ?_) (fun h2 => ?_)
    · replace h2 := of_decide_eq_true h2
      refine c_seq ?_
      refine c_reg ?_
      refine mv (.int _ _) rfl ?_
      refine quoU64 (a := n) (b := (64 : UInt64)) rfl rfl (by decide) ?_
      refine addU64 (a := (192 : UInt64)) (b := (n / (64 : UInt64))) rfl rfl ?_
      refine cvNU8 (n := ((192 : UInt64) + (n / (64 : UInt64))).toNat) rfl Tryd.underlying23 Tryd.underlying5 ?_
      refine mv (.int _ _) rfl ?_
      refine remU64 (a := n) (b := (64 : UInt64)) rfl rfl (by decide) ?_
      refine addU64 (a := (128 : UInt64)) (b := (n % (64 : UInt64))) rfl rfl ?_
      refine cvNU8 (n := ((128 : UInt64) + (n % (64 : UInt64))).toNat) rfl Tryd.underlying23 Tryd.underlying5 ?_
      refine bsl (α := UInt8) ([(UInt8.ofNat (((192 : UInt64) + (n / (64 : UInt64))).toNat)), (UInt8.ofNat (((128 : UInt64) + (n % (64 : UInt64))).toNat))]) Tryd.underlying50 ty5.sz rfl (by decide) z5 rfl fun b19 => ⟨trivial, ?_⟩
      refine cvBO (o := ⟨false, b19, 2, []⟩) (ys := ([(UInt8.ofNat (((192 : UInt64) + (n / (64 : UInt64))).toNat)), (UInt8.ofNat (((128 : UInt64) + (n % (64 : UInt64))).toNat))] : List UInt8)) 0 ⟨by simp, fun _ => rfl, Nat.le_refl _⟩ rfl rfl rfl Tryd.underlying50 Tryd.underlying9 Tryd.underlying5 ?_
      refine asg (.string _) rfl ?_
      refine jt ?_
      refine c_ret ?_
      exact j_end (own0 := []) (ro0 := []) (.inl rfl) rfl (hr1 Tryd.results89 (rvt (v := (.string _)) rfl)) [] [0] [] [_] [] _ rfl rfl (by kernel_rfl) rfl impl_nil (⟨congrArg strV (encv_2 (by omega) (by omega)), rfl, rfl⟩)
    · replace h2 := of_decide_eq_false h2
      refine c_skip ?_
      refine e_then ?_
      refine c_seq ?_
      refine c_seq ?_
      refine c_reg ?_
      refine mv (.int _ _) rfl ?_
      refine cmp _ rfl rfl rfl ?_
      refine mv (.bool _) rfl ?_
      refine jsplit 23 rfl (fun h3 => ?_) (fun h3 => ?_)
      · replace h3 := of_decide_eq_true h3
        refine g_on rfl rfl rfl ?_
        refine mv (.int _ _) rfl ?_
        refine g_on rfl rfl rfl ?_
        refine cmp _ rfl rfl rfl ?_
        refine pkt (.bool _) rfl rfl ?_
        refine mv (.bool _) rfl ?_
        refine jsplit 27 rfl (fun h4 => ?_) (fun h4 => ?_)
        · replace h4 := of_decide_eq_true h4
          refine g_off rfl rfl rfl rfl ?_
          refine g_off rfl rfl rfl rfl ?_
          refine pkt (.bool _) rfl rfl ?_
          refine jt ?_
          refine c_true rfl ?_
          refine c_seq ?_
          refine c_reg ?_
          refine asg (.string _) rfl ?_
          refine jt ?_
          refine c_ret ?_
          exact j_end (own0 := []) (ro0 := []) (.inl rfl) rfl (hr1 Tryd.results89 (rvt (v := (.string _)) rfl)) [] [] [] [] [] _ rfl rfl (by kernel_rfl) rfl impl_nil (⟨congrArg strV (encv_0 (by omega) (by omega)), rfl, rfl⟩)
        · replace h4 := of_decide_eq_false h4
          refine g_on rfl rfl rfl ?_
          refine mv (.int _ _) rfl ?_
          refine g_on rfl rfl rfl ?_
          refine cmp _ rfl rfl rfl ?_
          refine pkf (.bool _) rfl rfl ?_
          refine jt ?_
          refine c_cond rfl (fun h5 => ?_) (fun h5 => ?_)
          · replace h5 := of_decide_eq_true h5
            refine c_seq ?_
            refine c_reg ?_
            refine asg (.string _) rfl ?_
            refine jt ?_
            refine c_ret ?_
            exact j_end (own0 := []) (ro0 := []) (.inl rfl) rfl (hr1 Tryd.results89 (rvt (v := (.string _)) rfl)) [] [] [] [] [] _ rfl rfl (by kernel_rfl) rfl impl_nil (⟨congrArg strV (encv_0 (by omega) (by omega)), rfl, rfl⟩)
          · replace h5 := of_decide_eq_false h5
            refine c_skip ?_
            refine e_then ?_
            refine c_seq ?_
            refine c_seq ?_
            refine c_reg ?_
            refine mv (.int _ _) rfl ?_
            refine cmp _ rfl rfl rfl ?_
            refine jt ?_
            refine c_cond rfl (fun h6 => ?_) (fun h6 => ?_)
            · replace h6 := of_decide_eq_true h6
              refine c_seq ?_
              refine c_reg ?_
              refine mv (.int _ _) rfl ?_
              refine quoU64 (a := n) (b := (4096 : UInt64)) rfl rfl (by decide) ?_
              refine addU64 (a := (224 : UInt64)) (b := (n / (4096 : UInt64))) rfl rfl ?_
              refine cvNU8 (n := ((224 : UInt64) + (n / (4096 : UInt64))).toNat) rfl Tryd.underlying23 Tryd.underlying5 ?_
              refine mv (.int _ _) rfl ?_
              refine quoU64 (a := n) (b := (64 : UInt64)) rfl rfl (by decide) ?_
              refine remU64 (a := (n / (64 : UInt64))) (b := (64 : UInt64)) rfl rfl (by decide) ?_
              refine addU64 (a := (128 : UInt64)) (b := ((n / (64 : UInt64)) % (64 : UInt64))) rfl rfl ?_
              refine cvNU8 (n := ((128 : UInt64) + ((n / (64 : UInt64)) % (64 : UInt64))).toNat) rfl Tryd.underlying23 Tryd.underlying5 ?_
              refine mv (.int _ _) rfl ?_
              refine remU64 (a := n) (b := (64 : UInt64)) rfl rfl (by decide) ?_
              refine addU64 (a := (128 : UInt64)) (b := (n % (64 : UInt64))) rfl rfl ?_
              refine cvNU8 (n := ((128 : UInt64) + (n % (64 : UInt64))).toNat) rfl Tryd.underlying23 Tryd.underlying5 ?_
              refine bsl (α := UInt8) ([(UInt8.ofNat (((224 : UInt64) + (n / (4096 : UInt64))).toNat)), (UInt8.ofNat (((128 : UInt64) + ((n / (64 : UInt64)) % (64 : UInt64))).toNat)), (UInt8.ofNat (((128 : UInt64) + (n % (64 : UInt64))).toNat))]) Tryd.underlying50 ty5.sz rfl (by decide) z5 rfl fun b46 => ⟨trivial, ?_⟩
              refine cvBO (o := ⟨false, b46, 3, []⟩) (ys := ([(UInt8.ofNat (((224 : UInt64) + (n / (4096 : UInt64))).toNat)), (UInt8.ofNat (((128 : UInt64) + ((n / (64 : UInt64)) % (64 : UInt64))).toNat)), (UInt8.ofNat (((128 : UInt64) + (n % (64 : UInt64))).toNat))] : List UInt8)) 0 ⟨by simp, fun _ => rfl, Nat.le_refl _⟩ rfl rfl rfl Tryd.underlying50 Tryd.underlying9 Tryd.underlying5 ?_
              refine asg (.string _) rfl ?_
              refine jt ?_
              refine c_ret ?_
              exact j_end (own0 := []) (ro0 := []) (.inl rfl) rfl (hr1 Tryd.results89 (rvt (v := (.string _)) rfl)) [] [0] [] [_] [] _ rfl rfl (by kernel_rfl) rfl impl_nil (⟨congrArg strV (encv_3 (by omega) (by omega) (by omega)), rfl, rfl⟩)
            · replace h6 := of_decide_eq_false h6
              refine c_skip ?_
              refine e_then ?_
              refine c_seq ?_
              refine c_reg ?_
              refine mv (.int _ _) rfl ?_
              refine quoU64 (a := n) (b := (262144 : UInt64)) rfl rfl (by decide) ?_
              refine addU64 (a := (240 : UInt64)) (b := (n / (262144 : UInt64))) rfl rfl ?_
              refine cvNU8 (n := ((240 : UInt64) + (n / (262144 : UInt64))).toNat) rfl Tryd.underlying23 Tryd.underlying5 ?_
              refine mv (.int _ _) rfl ?_
              refine quoU64 (a := n) (b := (4096 : UInt64)) rfl rfl (by decide) ?_
              refine remU64 (a := (n / (4096 : UInt64))) (b := (64 : UInt64)) rfl rfl (by decide) ?_
              refine addU64 (a := (128 : UInt64)) (b := ((n / (4096 : UInt64)) % (64 : UInt64))) rfl rfl ?_
              refine cvNU8 (n := ((128 : UInt64) + ((n / (4096 : UInt64)) % (64 : UInt64))).toNat) rfl Tryd.underlying23 Tryd.underlying5 ?_
              refine mv (.int _ _) rfl ?_
              refine quoU64 (a := n) (b := (64 : UInt64)) rfl rfl (by decide) ?_
              refine remU64 (a := (n / (64 : UInt64))) (b := (64 : UInt64)) rfl rfl (by decide) ?_
              refine addU64 (a := (128 : UInt64)) (b := ((n / (64 : UInt64)) % (64 : UInt64))) rfl rfl ?_
              refine cvNU8 (n := ((128 : UInt64) + ((n / (64 : UInt64)) % (64 : UInt64))).toNat) rfl Tryd.underlying23 Tryd.underlying5 ?_
              refine mv (.int _ _) rfl ?_
              refine remU64 (a := n) (b := (64 : UInt64)) rfl rfl (by decide) ?_
              refine addU64 (a := (128 : UInt64)) (b := (n % (64 : UInt64))) rfl rfl ?_
              refine cvNU8 (n := ((128 : UInt64) + (n % (64 : UInt64))).toNat) rfl Tryd.underlying23 Tryd.underlying5 ?_
              refine bsl (α := UInt8) ([(UInt8.ofNat (((240 : UInt64) + (n / (262144 : UInt64))).toNat)), (UInt8.ofNat (((128 : UInt64) + ((n / (4096 : UInt64)) % (64 : UInt64))).toNat)), (UInt8.ofNat (((128 : UInt64) + ((n / (64 : UInt64)) % (64 : UInt64))).toNat)), (UInt8.ofNat (((128 : UInt64) + (n % (64 : UInt64))).toNat))]) Tryd.underlying50 ty5.sz rfl (by decide) z5 rfl fun b66 => ⟨trivial, ?_⟩
              refine cvBO (o := ⟨false, b66, 4, []⟩) (ys := ([(UInt8.ofNat (((240 : UInt64) + (n / (262144 : UInt64))).toNat)), (UInt8.ofNat (((128 : UInt64) + ((n / (4096 : UInt64)) % (64 : UInt64))).toNat)), (UInt8.ofNat (((128 : UInt64) + ((n / (64 : UInt64)) % (64 : UInt64))).toNat)), (UInt8.ofNat (((128 : UInt64) + (n % (64 : UInt64))).toNat))] : List UInt8)) 0 ⟨by simp, fun _ => rfl, Nat.le_refl _⟩ rfl rfl rfl Tryd.underlying50 Tryd.underlying9 Tryd.underlying5 ?_
              refine asg (.string _) rfl ?_
              refine jt ?_
              refine c_ret ?_
              exact j_end (own0 := []) (ro0 := []) (.inl rfl) rfl (hr1 Tryd.results89 (rvt (v := (.string _)) rfl)) [] [0] [] [_] [] _ rfl rfl (by kernel_rfl) rfl impl_nil (⟨congrArg strV (encv_4 (by omega) (by omega)), rfl, rfl⟩)
      · replace h3 := of_decide_eq_false h3
        refine g_off rfl rfl rfl rfl ?_
        refine g_off rfl rfl rfl rfl ?_
        refine pkf (.bool _) rfl rfl ?_
        refine mv (.bool _) rfl ?_
        refine g_on rfl rfl rfl ?_
        refine mv (.int _ _) rfl ?_
        refine g_on rfl rfl rfl ?_
        refine cmp _ rfl rfl rfl ?_
        refine pkf (.bool _) rfl rfl ?_
        refine jt ?_
        refine c_cond rfl (fun h7 => ?_) (fun h7 => ?_)
        · replace h7 := of_decide_eq_true h7
          refine c_seq ?_
          refine c_reg ?_
          refine asg (.string _) rfl ?_
          refine jt ?_
          refine c_ret ?_
          exact j_end (own0 := []) (ro0 := []) (.inl rfl) rfl (hr1 Tryd.results89 (rvt (v := (.string _)) rfl)) [] [] [] [] [] _ rfl rfl (by kernel_rfl) rfl impl_nil (⟨congrArg strV (encv_0 (by omega) (by omega)), rfl, rfl⟩)
        · replace h7 := of_decide_eq_false h7
          refine c_skip ?_
          refine e_then ?_
          refine c_seq ?_
          refine c_seq ?_
          refine c_reg ?_
          refine mv (.int _ _) rfl ?_
          refine cmp _ rfl rfl rfl ?_
          refine jt ?_
          refine c_cond rfl (fun h8 => ?_) (fun h8 => ?_)
          · replace h8 := of_decide_eq_true h8
            refine c_seq ?_
            refine c_reg ?_
            refine mv (.int _ _) rfl ?_
            refine quoU64 (a := n) (b := (4096 : UInt64)) rfl rfl (by decide) ?_
            refine addU64 (a := (224 : UInt64)) (b := (n / (4096 : UInt64))) rfl rfl ?_
            refine cvNU8 (n := ((224 : UInt64) + (n / (4096 : UInt64))).toNat) rfl Tryd.underlying23 Tryd.underlying5 ?_
            refine mv (.int _ _) rfl ?_
            refine quoU64 (a := n) (b := (64 : UInt64)) rfl rfl (by decide) ?_
            refine remU64 (a := (n / (64 : UInt64))) (b := (64 : UInt64)) rfl rfl (by decide) ?_
            refine addU64 (a := (128 : UInt64)) (b := ((n / (64 : UInt64)) % (64 : UInt64))) rfl rfl ?_
            refine cvNU8 (n := ((128 : UInt64) + ((n / (64 : UInt64)) % (64 : UInt64))).toNat) rfl Tryd.underlying23 Tryd.underlying5 ?_
            refine mv (.int _ _) rfl ?_
            refine remU64 (a := n) (b := (64 : UInt64)) rfl rfl (by decide) ?_
            refine addU64 (a := (128 : UInt64)) (b := (n % (64 : UInt64))) rfl rfl ?_
            refine cvNU8 (n := ((128 : UInt64) + (n % (64 : UInt64))).toNat) rfl Tryd.underlying23 Tryd.underlying5 ?_
            refine bsl (α := UInt8) ([(UInt8.ofNat (((224 : UInt64) + (n / (4096 : UInt64))).toNat)), (UInt8.ofNat (((128 : UInt64) + ((n / (64 : UInt64)) % (64 : UInt64))).toNat)), (UInt8.ofNat (((128 : UInt64) + (n % (64 : UInt64))).toNat))]) Tryd.underlying50 ty5.sz rfl (by decide) z5 rfl fun b46 => ⟨trivial, ?_⟩
            refine cvBO (o := ⟨false, b46, 3, []⟩) (ys := ([(UInt8.ofNat (((224 : UInt64) + (n / (4096 : UInt64))).toNat)), (UInt8.ofNat (((128 : UInt64) + ((n / (64 : UInt64)) % (64 : UInt64))).toNat)), (UInt8.ofNat (((128 : UInt64) + (n % (64 : UInt64))).toNat))] : List UInt8)) 0 ⟨by simp, fun _ => rfl, Nat.le_refl _⟩ rfl rfl rfl Tryd.underlying50 Tryd.underlying9 Tryd.underlying5 ?_
            refine asg (.string _) rfl ?_
            refine jt ?_
            refine c_ret ?_
            exact j_end (own0 := []) (ro0 := []) (.inl rfl) rfl (hr1 Tryd.results89 (rvt (v := (.string _)) rfl)) [] [0] [] [_] [] _ rfl rfl (by kernel_rfl) rfl impl_nil (⟨congrArg strV (encv_3 (by omega) (by omega) (by omega)), rfl, rfl⟩)
          · replace h8 := of_decide_eq_false h8
            refine c_skip ?_
            refine e_then ?_
            refine c_seq ?_
            refine c_reg ?_
            refine mv (.int _ _) rfl ?_
            refine quoU64 (a := n) (b := (262144 : UInt64)) rfl rfl (by decide) ?_
            refine addU64 (a := (240 : UInt64)) (b := (n / (262144 : UInt64))) rfl rfl ?_
            refine cvNU8 (n := ((240 : UInt64) + (n / (262144 : UInt64))).toNat) rfl Tryd.underlying23 Tryd.underlying5 ?_
            refine mv (.int _ _) rfl ?_
            refine quoU64 (a := n) (b := (4096 : UInt64)) rfl rfl (by decide) ?_
            refine remU64 (a := (n / (4096 : UInt64))) (b := (64 : UInt64)) rfl rfl (by decide) ?_
            refine addU64 (a := (128 : UInt64)) (b := ((n / (4096 : UInt64)) % (64 : UInt64))) rfl rfl ?_
            refine cvNU8 (n := ((128 : UInt64) + ((n / (4096 : UInt64)) % (64 : UInt64))).toNat) rfl Tryd.underlying23 Tryd.underlying5 ?_
            refine mv (.int _ _) rfl ?_
            refine quoU64 (a := n) (b := (64 : UInt64)) rfl rfl (by decide) ?_
            refine remU64 (a := (n / (64 : UInt64))) (b := (64 : UInt64)) rfl rfl (by decide) ?_
            refine addU64 (a := (128 : UInt64)) (b := ((n / (64 : UInt64)) % (64 : UInt64))) rfl rfl ?_
            refine cvNU8 (n := ((128 : UInt64) + ((n / (64 : UInt64)) % (64 : UInt64))).toNat) rfl Tryd.underlying23 Tryd.underlying5 ?_
            refine mv (.int _ _) rfl ?_
            refine remU64 (a := n) (b := (64 : UInt64)) rfl rfl (by decide) ?_
            refine addU64 (a := (128 : UInt64)) (b := (n % (64 : UInt64))) rfl rfl ?_
            refine cvNU8 (n := ((128 : UInt64) + (n % (64 : UInt64))).toNat) rfl Tryd.underlying23 Tryd.underlying5 ?_
            refine bsl (α := UInt8) ([(UInt8.ofNat (((240 : UInt64) + (n / (262144 : UInt64))).toNat)), (UInt8.ofNat (((128 : UInt64) + ((n / (4096 : UInt64)) % (64 : UInt64))).toNat)), (UInt8.ofNat (((128 : UInt64) + ((n / (64 : UInt64)) % (64 : UInt64))).toNat)), (UInt8.ofNat (((128 : UInt64) + (n % (64 : UInt64))).toNat))]) Tryd.underlying50 ty5.sz rfl (by decide) z5 rfl fun b66 => ⟨trivial, ?_⟩
            refine cvBO (o := ⟨false, b66, 4, []⟩) (ys := ([(UInt8.ofNat (((240 : UInt64) + (n / (262144 : UInt64))).toNat)), (UInt8.ofNat (((128 : UInt64) + ((n / (4096 : UInt64)) % (64 : UInt64))).toNat)), (UInt8.ofNat (((128 : UInt64) + ((n / (64 : UInt64)) % (64 : UInt64))).toNat)), (UInt8.ofNat (((128 : UInt64) + (n % (64 : UInt64))).toNat))] : List UInt8)) 0 ⟨by simp, fun _ => rfl, Nat.le_refl _⟩ rfl rfl rfl Tryd.underlying50 Tryd.underlying9 Tryd.underlying5 ?_
            refine asg (.string _) rfl ?_
            refine jt ?_
            refine c_ret ?_
            exact j_end (own0 := []) (ro0 := []) (.inl rfl) rfl (hr1 Tryd.results89 (rvt (v := (.string _)) rfl)) [] [0] [] [_] [] _ rfl rfl (by kernel_rfl) rfl impl_nil (⟨congrArg strV (encv_4 (by omega) (by omega)), rfl, rfl⟩)
end Go.Proofs.YthpbiamicidakaaDoor
namespace Go.Proofs.YthpbiamicidakaaDoor
open Go Go.Proofs Go.PW
open Go.PW.Enc (enc val)
theorem take_word (s : Str) (a : Nat) : List.take (a + wlen s a - a) (List.drop a s) = word s a := by unfold word; rw [show a + wlen s a - a = wlen s a by omega]
theorem take_word0 (s : Str) : List.take (word s 0).length s = word s 0 := by rw [word_length]; unfold word; rw [List.drop_zero]
theorem earth_90 (f : F64) : decide (floatV f.b 90 = 0) = !oddB f ⟨4636033603912859648⟩ := by have h := onEarth_eq f 90 (by rw [whole_90]; decide); rw [whole_90] at h; exact h
theorem earth_180 (f : F64) : decide (floatV f.b 180 = 0) = !oddB f ⟨4640537203540230144⟩ := by have h := onEarth_eq f 180 (by rw [whole_180]; decide); rw [whole_180] at h; exact h
theorem earth_ok {m : UInt64} {M f : F64} (hM : ∀ f : F64, decide (floatV f.b m = 0) = !oddB f M) (h : floatV f.b m = 0) : oddB f M = false := by have := hM f; rw [decide_eq_true h] at this; exact notT this.symm
theorem earth_odd {m : UInt64} {M f : F64} (hM : ∀ f : F64, decide (floatV f.b m = 0) = !oddB f M) (h : ¬ floatV f.b m = 0) : oddB f M = true := by have := hM f; rw [decide_eq_false h] at this; exact notF this.symm
theorem said_u8 {s : Str} {lo hi : Int} (h : saidB s lo hi = true) : u8ok s = true := by unfold saidB at h; rw [Bool.and_eq_true] at h; exact h.2
theorem said_b {s : Str} {lo hi : Int} (h : saidB s lo hi = true) : lo ≤ (s.length : Int) ∧ (s.length : Int) ≤ hi := by simp only [saidB, Bool.and_eq_true, decide_eq_true_eq] at h; exact h.1
theorem said_no {s : Str} {lo hi : Int} (h : saidB s lo hi = false) (hu : u8ok s = true) : ¬(lo ≤ (s.length : Int) ∧ (s.length : Int) ≤ hi) := fun hb => by unfold saidB at h; rw [hu, decide_eq_true hb.1, decide_eq_true hb.2] at h; cases h
set_option maxRecDepth 20000 in
set_option maxHeartbeats 4000000 in
theorem rdnum_bad (b : Nat) (s : Str) (p k : Nat) (m : UInt64) : Ct Tryd.prog 39 [.pointer (some ⟨b, 0, none⟩), .int .u64 (m.toNat : Int)] [[(b, .cells (cat [pt s, p1 (.int .i64 ((p : Nat) : Int)), p1 (.int .i64 ((k : Nat) : Int))]) 66)]] [] (fun v o r => v = .int .u64 0 ∧ o = [[(b, .cells (cat [pt s, p1 (.int .i64 ((p : Nat) : Int)), p1 (.int .i64 ((k : Nat) : Int))]) 66)]] ∧ r = []) := by
  refine ct_enter Tryd.func39 rfl Tryd.ntmps39 (by kernel_rfl) rfl fun w0 => ?_
  refine c_seq ?_
  refine c_reg ?_
  refine asg (.int _ _) rfl ?_
  refine jt ?_
  refine c_seq ?_
  refine c_reg ?_
  refine mv (.pointer _) rfl ?_
  refine cal (rbegin_bad b s p k) [0] [] [] rfl rfl rfl (by kernel_rfl) impl_nil rfl ?_; rintro _ _ _ ⟨rfl, rfl, rfl⟩; refine ⟨trivial, ?_⟩
  refine asg (.int _ _) rfl ?_
  refine jt ?_
  refine c_seq ?_
  refine c_seq ?_
  refine c_reg ?_
  refine mv (.int _ _) rfl ?_
  refine cmp true rfl rfl rfl ?_
  refine jt ?_
  refine c_true rfl ?_
  refine c_seq ?_
  refine c_reg ?_
  refine asg (.int _ _) rfl ?_
  refine jt ?_
  refine c_ret ?_
  exact j_end (own0 := [[(b, .cells (cat [pt s, p1 (.int .i64 ((p : Nat) : Int)), p1 (.int .i64 ((k : Nat) : Int))]) 66)]]) (ro0 := []) (.inl rfl) rfl (hr1 Tryd.results39 (rvt (v := (.int _ _)) rfl)) [0] [] [_] [] [] _ rfl rfl (by kernel_rfl) rfl impl_nil (⟨rfl, rfl, rfl⟩)
set_option maxRecDepth 20000 in
set_option maxHeartbeats 4000000 in
theorem rdnum_ct (b : Nat) (s : Str) (p : Nat) (hs : s.length ≤ 140737488351232) (hp : p ≤ s.length) (m : UInt64) (hm : m.toNat < 1000000000000000000) : Ct Tryd.prog 39 [.pointer (some ⟨b, 0, none⟩), .int .u64 (m.toNat : Int)] [[(b, .cells (cat [pt s, p1 (.int .i64 ((p : Nat) : Int)), p1 (.int .i64 (-1))]) 66)]] [tPow10 3] (fun v o r => (∃ (n : UInt64) (q : Nat), numR s 0 m.toNat p = .inr (n.toNat, q) ∧ v = .int .u64 (n.toNat : Int) ∧ o = [[(b, .cells (cat [pt s, p1 (.int .i64 ((q : Nat) : Int)), p1 (.int .i64 (-1))]) 66)]] ∧ r = []) ∨ (∃ (n : UInt64) (q a : Nat), numR s 0 m.toNat p = .inl q ∧ v = .int .u64 (n.toNat : Int) ∧ o = [[(b, .cells (cat [pt s, p1 (.int .i64 ((a : Nat) : Int)), p1 (.int .i64 ((q : Nat) : Int))]) 66)]] ∧ r = [])) := by
  have HWL := wlen_le s (p + 1)
  have HWW := word_length s (p + 1)
  refine ct_enter Tryd.func39 rfl Tryd.ntmps39 (by kernel_rfl) rfl fun w0 => ?_
  refine c_seq ?_
  refine c_reg ?_
  refine asg (.int _ _) rfl ?_
  refine jt ?_
  refine c_seq ?_
  refine c_reg ?_
  refine mv (.pointer _) rfl ?_
  refine cal (rbegin_ct b s p (by omega) (by omega)) [0] [] [] rfl rfl rfl (by kernel_rfl) impl_nil rfl ?_; rintro _ _ _ (⟨hbl1, rfl, rfl, rfl⟩ | ⟨hbl1, rfl, rfl, rfl⟩)
  · have hpl1 := blk_lt hbl1; refine ⟨trivial, ?_⟩
    refine asg (.int _ _) rfl ?_
    refine jt ?_
    refine c_seq ?_
    refine c_seq ?_
    refine c_reg ?_
    refine mv (.int _ _) rfl ?_
    refine cmp false rfl rfl (by simp only [cmpV]; exact congrArg some (decide_eq_false (by omega))) ?_
    refine jt ?_
    refine c_false rfl ?_
    refine c_skip ?_
    refine e_then ?_
    refine c_seq ?_
    refine c_reg ?_
    refine mv (.pointer _) rfl ?_
    refine nlc rfl ?_
    refine fad rfl Tryd.underlying66 rfl ty9.sz ?_
    refine ldp 0 0 _ rfl rfl rfl rfl ty9 ?_
    refine mv (.int _ _) rfl ?_
    refine cal (wordEnd_ct s (p + 1) (by omega) (by omega)) [] [0] [_] rfl rfl rfl (by kernel_rfl) impl_nil rfl ?_; rintro _ _ _ ⟨rfl, rfl, rfl⟩; refine ⟨trivial, ?_⟩
    refine asg (.int _ _) rfl ?_
    refine jt ?_
    refine c_seq ?_
    refine c_reg ?_
    refine mv (.pointer _) rfl ?_
    refine nlc rfl ?_
    refine fad rfl Tryd.underlying66 rfl ty9.sz ?_
    refine ldp 0 0 _ rfl rfl rfl rfl ty9 ?_
    refine mv (.int _ _) rfl ?_
    refine mv (.int _ _) rfl ?_
    refine cutT (s := s) (p + 1) ((p + 1) + wlen s (p + 1)) rfl Tryd.underlying9 ⟨_, rfl⟩ ⟨_, rfl⟩ (by first | omega | (simp; done) | (simp; omega)) (by first | omega | (simp; done) | (simp; omega)) (List.take (((p + 1) + wlen s (p + 1)) - (p + 1)) (List.drop (p + 1) s)) rfl ?_
    refine j_re 26 (strV (word s (p + 1))) (congrArg strV (take_word s (p + 1))) ?_
    refine mv (.int _ _) rfl ?_
    refine cal (rnum_ct (word s (p + 1)) m (by omega) (by omega)) [] [0] [_] rfl rfl rfl (by kernel_rfl) (impl_cons (impl_at 0 rfl) impl_nil) rfl ?_; rintro _ _ _ ⟨rn2, rb2, hry2, hrn2, rfl, rfl, rfl⟩; refine ⟨trivial, ?_⟩
    refine mv (.tuple _) rfl ?_
    refine xtr (.int _ _) rfl rfl ?_
    refine xtr (.bool _) rfl rfl ?_
    refine asg (.int _ _) rfl ?_
    refine asg (.bool _) rfl ?_
    refine jt ?_
    refine c_seq ?_
    refine c_reg ?_
    refine mv (.pointer _) rfl ?_
    refine mv (.int _ _) rfl ?_
    refine nlc rfl ?_
    refine fad rfl Tryd.underlying66 rfl ty3.sz ?_
    refine stp 0 1 _ (p1 (.int .i64 (((p + 1) + wlen s (p + 1) : Nat) : Int))) rfl rfl rfl rfl rfl rfl ty3 ⟨trivial, ?_⟩
    refine jt ?_
    refine c_seq ?_
    refine c_seq ?_
    refine c_reg ?_
    refine mv (.bool _) rfl ?_
    refine not_ rfl ?_
    refine jt ?_
    refine c_cond rfl (fun h1 => ?_) (fun h1 => ?_)
    · refine c_reg ?_
      refine mv (.pointer _) rfl ?_
      refine mv (.int _ _) rfl ?_
      refine nlc rfl ?_
      refine fad rfl Tryd.underlying66 rfl ty3.sz ?_
      refine stp 0 2 _ (p1 (.int .i64 ((p + 1 : Nat) : Int))) rfl rfl rfl rfl rfl rfl ty3 ⟨trivial, ?_⟩
      refine jt ?_
      refine c_seq ?_
      refine c_reg ?_
      refine mv (.int _ _) rfl ?_
      refine asg (.int _ _) rfl ?_
      refine jt ?_
      refine c_ret ?_
      exact j_end (own0 := [[(b, .cells (cat [pt s, p1 (.int .i64 ((p : Nat) : Int)), p1 (.int .i64 (-1))]) 66)]]) (ro0 := [tPow10 3]) (.inl rfl) rfl (hr1 Tryd.results39 (rvt (v := (.int _ _)) rfl)) [0] [] [_] [] [] _ rfl rfl (by kernel_rfl) rfl impl_nil (.inr ⟨rn2, (p + 1), _, numR_bad (by assumption) (fun k hk hb => hrn2 (notT (by assumption)) k hk hb.2), rfl, rfl, rfl⟩)
    · refine c_skip ?_
      refine e_then ?_
      refine c_seq ?_
      refine c_reg ?_
      refine mv (.int _ _) rfl ?_
      refine asg (.int _ _) rfl ?_
      refine jt ?_
      refine c_ret ?_
      exact j_end (own0 := [[(b, .cells (cat [pt s, p1 (.int .i64 ((p : Nat) : Int)), p1 (.int .i64 (-1))]) 66)]]) (ro0 := [tPow10 3]) (.inl rfl) rfl (hr1 Tryd.results39 (rvt (v := (.int _ _)) rfl)) [0] [] [_] [] [] _ rfl rfl (by kernel_rfl) rfl impl_nil (.inl ⟨rn2, _, numR_ok (by assumption) (hry2 (notF (by assumption))).1 ⟨by omega, (hry2 (notF (by assumption))).2⟩, rfl, rfl, rfl⟩)
  · refine ⟨trivial, ?_⟩
    refine asg (.int _ _) rfl ?_
    refine jt ?_
    refine c_seq ?_
    refine c_seq ?_
    refine c_reg ?_
    refine mv (.int _ _) rfl ?_
    refine cmp true rfl rfl rfl ?_
    refine jt ?_
    refine c_true rfl ?_
    refine c_seq ?_
    refine c_reg ?_
    refine asg (.int _ _) rfl ?_
    refine jt ?_
    refine c_ret ?_
    exact j_end (own0 := [[(b, .cells (cat [pt s, p1 (.int .i64 ((p : Nat) : Int)), p1 (.int .i64 (-1))]) 66)]]) (ro0 := [tPow10 3]) (.inl rfl) rfl (hr1 Tryd.results39 (rvt (v := (.int _ _)) rfl)) [0] [] [_] [] [] _ rfl rfl (by kernel_rfl) rfl impl_nil (.inr ⟨(0 : UInt64), p, p, numR_no (by assumption), rfl, rfl, rfl⟩)
set_option maxRecDepth 20000 in
set_option maxHeartbeats 4000000 in
theorem rdfl_bad (b : Nat) (s : Str) (p k : Nat) (m : UInt64) : Ct Tryd.prog 38 [.pointer (some ⟨b, 0, none⟩), .int .u64 (m.toNat : Int)] [[(b, .cells (cat [pt s, p1 (.int .i64 ((p : Nat) : Int)), p1 (.int .i64 ((k : Nat) : Int))]) 66)]] [] (fun v o r => v = .float .f64 0 ∧ o = [[(b, .cells (cat [pt s, p1 (.int .i64 ((p : Nat) : Int)), p1 (.int .i64 ((k : Nat) : Int))]) 66)]] ∧ r = []) := by
  refine ct_enter Tryd.func38 rfl Tryd.ntmps38 (by kernel_rfl) rfl fun w0 => ?_
  refine c_seq ?_
  refine c_reg ?_
  refine asg (.float _ _) rfl ?_
  refine jt ?_
  refine c_seq ?_
  refine c_reg ?_
  refine mv (.pointer _) rfl ?_
  refine cal (rbegin_bad b s p k) [0] [] [] rfl rfl rfl (by kernel_rfl) impl_nil rfl ?_; rintro _ _ _ ⟨rfl, rfl, rfl⟩; refine ⟨trivial, ?_⟩
  refine asg (.int _ _) rfl ?_
  refine jt ?_
  refine c_seq ?_
  refine c_seq ?_
  refine c_reg ?_
  refine mv (.int _ _) rfl ?_
  refine cmp true rfl rfl rfl ?_
  refine jt ?_
  refine c_true rfl ?_
  refine c_seq ?_
  refine c_reg ?_
  refine asg (.float _ _) rfl ?_
  refine jt ?_
  refine c_ret ?_
  exact j_end (own0 := [[(b, .cells (cat [pt s, p1 (.int .i64 ((p : Nat) : Int)), p1 (.int .i64 ((k : Nat) : Int))]) 66)]]) (ro0 := []) (.inl rfl) rfl (hr1 Tryd.results38 (rvt (v := (.float _ _)) rfl)) [0] [] [_] [] [] _ rfl rfl (by kernel_rfl) rfl impl_nil (⟨rfl, rfl, rfl⟩)
set_option maxRecDepth 20000 in
set_option maxHeartbeats 4000000 in
theorem rdfl_ct (b : Nat) (s : Str) (p : Nat) (hs : s.length ≤ 140737488351232) (hp : p ≤ s.length) (m : UInt64) (M : F64) (hm : m.toNat < 9223372036854775808) (hM : ∀ f : F64, decide (floatV f.b m = 0) = !oddB f M) : Ct Tryd.prog 38 [.pointer (some ⟨b, 0, none⟩), .int .u64 (m.toNat : Int)] [[(b, .cells (cat [pt s, p1 (.int .i64 ((p : Nat) : Int)), p1 (.int .i64 (-1))]) 66)]] [] (fun v o r => (∃ (n : F64) (q : Nat), degR s M p = .inr (n, q) ∧ v = .float .f64 n.b.toNat ∧ o = [[(b, .cells (cat [pt s, p1 (.int .i64 ((q : Nat) : Int)), p1 (.int .i64 (-1))]) 66)]] ∧ r = []) ∨ (∃ (n : F64) (q a : Nat), degR s M p = .inl q ∧ v = .float .f64 n.b.toNat ∧ o = [[(b, .cells (cat [pt s, p1 (.int .i64 ((a : Nat) : Int)), p1 (.int .i64 ((q : Nat) : Int))]) 66)]] ∧ r = [])) := by
  have HWL := wlen_le s (p + 1)
  have HWW := word_length s (p + 1)
  refine ct_enter Tryd.func38 rfl Tryd.ntmps38 (by kernel_rfl) rfl fun w0 => ?_
  refine c_seq ?_
  refine c_reg ?_
  refine asg (.float _ _) rfl ?_
  refine jt ?_
  refine c_seq ?_
  refine c_reg ?_
  refine mv (.pointer _) rfl ?_
  refine cal (rbegin_ct b s p (by omega) (by omega)) [0] [] [] rfl rfl rfl (by kernel_rfl) impl_nil rfl ?_; rintro _ _ _ (⟨hbl1, rfl, rfl, rfl⟩ | ⟨hbl1, rfl, rfl, rfl⟩)
  · have hpl1 := blk_lt hbl1; refine ⟨trivial, ?_⟩
    refine asg (.int _ _) rfl ?_
    refine jt ?_
    refine c_seq ?_
    refine c_seq ?_
    refine c_reg ?_
    refine mv (.int _ _) rfl ?_
    refine cmp false rfl rfl (by simp only [cmpV]; exact congrArg some (decide_eq_false (by omega))) ?_
    refine jt ?_
    refine c_false rfl ?_
    refine c_skip ?_
    refine e_then ?_
    refine c_seq ?_
    refine c_reg ?_
    refine mv (.pointer _) rfl ?_
    refine nlc rfl ?_
    refine fad rfl Tryd.underlying66 rfl ty9.sz ?_
    refine ldp 0 0 _ rfl rfl rfl rfl ty9 ?_
    refine mv (.int _ _) rfl ?_
    refine cal (wordEnd_ct s (p + 1) (by omega) (by omega)) [] [0] [_] rfl rfl rfl (by kernel_rfl) impl_nil rfl ?_; rintro _ _ _ ⟨rfl, rfl, rfl⟩; refine ⟨trivial, ?_⟩
    refine asg (.int _ _) rfl ?_
    refine jt ?_
    refine c_seq ?_
    refine c_reg ?_
    refine mv (.pointer _) rfl ?_
    refine nlc rfl ?_
    refine fad rfl Tryd.underlying66 rfl ty9.sz ?_
    refine ldp 0 0 _ rfl rfl rfl rfl ty9 ?_
    refine mv (.int _ _) rfl ?_
    refine mv (.int _ _) rfl ?_
    refine cutT (s := s) (p + 1) ((p + 1) + wlen s (p + 1)) rfl Tryd.underlying9 ⟨_, rfl⟩ ⟨_, rfl⟩ (by first | omega | (simp; done) | (simp; omega)) (by first | omega | (simp; done) | (simp; omega)) (List.take (((p + 1) + wlen s (p + 1)) - (p + 1)) (List.drop (p + 1) s)) rfl ?_
    refine j_re 27 (strV (word s (p + 1))) (congrArg strV (take_word s (p + 1))) ?_
    refine cal (bits_ct (word s (p + 1)) (by omega)) [] [0] [_] rfl rfl rfl (by kernel_rfl) impl_nil rfl ?_; rintro _ _ _ ⟨bn2, bb2, hby2, hbn2, rfl, rfl, rfl⟩; refine ⟨trivial, ?_⟩
    refine mv (.tuple _) rfl ?_
    refine xtr (.int _ _) rfl rfl ?_
    refine xtr (.bool _) rfl rfl ?_
    refine asg (.int _ _) rfl ?_
    refine asg (.bool _) rfl ?_
    refine jt ?_
    refine c_seq ?_
    refine c_reg ?_
    refine mv (.int _ _) rfl ?_
    refine xcal (args := [.int .u64 (bn2.toNat : Int)]) (.float .f64 bn2.toNat) Tryd.func16 (by kernel_rfl) (by kernel_rfl) (by kernel_rfl) (fun w => rfl) (by kernel_rfl) rfl ?_
    refine asg (.float _ _) rfl ?_
    refine jt ?_
    refine c_seq ?_
    refine c_reg ?_
    refine mv (.pointer _) rfl ?_
    refine mv (.int _ _) rfl ?_
    refine nlc rfl ?_
    refine fad rfl Tryd.underlying66 rfl ty3.sz ?_
    refine stp 0 1 _ (p1 (.int .i64 (((p + 1) + wlen s (p + 1) : Nat) : Int))) rfl rfl rfl rfl rfl rfl ty3 ⟨trivial, ?_⟩
    refine jt ?_
    refine c_seq ?_
    refine c_seq ?_
    refine c_reg ?_
    refine mv (.bool _) rfl ?_
    refine not_ rfl ?_
    refine mv (.bool _) rfl ?_
    refine jsplit 39 rfl (fun h1 => ?_) (fun h1 => ?_)
    · refine g_off rfl rfl rfl rfl ?_
      refine g_off rfl rfl rfl rfl ?_
      refine g_off rfl rfl rfl rfl ?_
      refine g_off rfl rfl rfl rfl ?_
      refine pkt (.bool _) rfl rfl ?_
      refine jt ?_
      refine c_true rfl ?_
      refine c_seq ?_
      refine c_reg ?_
      refine mv (.pointer _) rfl ?_
      refine mv (.int _ _) rfl ?_
      refine nlc rfl ?_
      refine fad rfl Tryd.underlying66 rfl ty3.sz ?_
      refine stp 0 2 _ (p1 (.int .i64 ((p + 1 : Nat) : Int))) rfl rfl rfl rfl rfl rfl ty3 ⟨trivial, ?_⟩
      refine jt ?_
      refine c_seq ?_
      refine c_reg ?_
      refine asg (.float _ _) rfl ?_
      refine jt ?_
      refine c_ret ?_
      exact j_end (own0 := [[(b, .cells (cat [pt s, p1 (.int .i64 ((p : Nat) : Int)), p1 (.int .i64 (-1))]) 66)]]) (ro0 := []) (.inl rfl) rfl (hr1 Tryd.results38 (rvt (v := (.float _ _)) rfl)) [0] [] [_] [] [] _ rfl rfl (by kernel_rfl) rfl impl_nil (.inr ⟨⟨0⟩, (p + 1), _, degR_l (hexR_bad (by assumption) (by rw [← word_length]; exact hbn2 (notT (by assumption)))), rfl, rfl, rfl⟩)
    · refine g_on rfl rfl rfl ?_
      refine mv (.float _ _) rfl ?_
      refine g_on rfl rfl rfl ?_
      refine mv (.int _ _) rfl ?_
      refine g_on rfl rfl rfl ?_
      refine cal (onEarth_ct (⟨bn2⟩ : F64) m hm) [] [0] [_] rfl rfl rfl (by kernel_rfl) impl_nil rfl ?_; rintro _ _ _ ⟨rfl, rfl, rfl⟩; refine ⟨trivial, ?_⟩
      refine g_on rfl rfl rfl ?_
      refine not_ rfl ?_
      refine pkf (.bool _) rfl rfl ?_
      refine jt ?_
      refine c_cond rfl (fun h2 => ?_) (fun h2 => ?_)
      · replace h2 := ndt h2
        refine c_seq ?_
        refine c_reg ?_
        refine mv (.pointer _) rfl ?_
        refine mv (.int _ _) rfl ?_
        refine nlc rfl ?_
        refine fad rfl Tryd.underlying66 rfl ty3.sz ?_
        refine stp 0 2 _ (p1 (.int .i64 ((p + 1 : Nat) : Int))) rfl rfl rfl rfl rfl rfl ty3 ⟨trivial, ?_⟩
        refine jt ?_
        refine c_seq ?_
        refine c_reg ?_
        refine asg (.float _ _) rfl ?_
        refine jt ?_
        refine c_ret ?_
        exact j_end (own0 := [[(b, .cells (cat [pt s, p1 (.int .i64 ((p : Nat) : Int)), p1 (.int .i64 (-1))]) 66)]]) (ro0 := []) (.inl rfl) rfl (hr1 Tryd.results38 (rvt (v := (.float _ _)) rfl)) [0] [] [_] [] [] _ rfl rfl (by kernel_rfl) rfl impl_nil (.inr ⟨⟨0⟩, (p + 1), _, degR_odd (hexR_ok (by assumption) (by rw [← word_length]; exact (hby2 (notF (by assumption))).1) (hby2 (notF (by assumption))).2.1) (by rw [← (hby2 (notF (by assumption))).2.2]; exact earth_odd hM (by assumption)), rfl, rfl, rfl⟩)
      · replace h2 := ndf h2
        refine c_skip ?_
        refine e_then ?_
        refine c_seq ?_
        refine c_reg ?_
        refine mv (.float _ _) rfl ?_
        refine asg (.float _ _) rfl ?_
        refine jt ?_
        refine c_ret ?_
        exact j_end (own0 := [[(b, .cells (cat [pt s, p1 (.int .i64 ((p : Nat) : Int)), p1 (.int .i64 (-1))]) 66)]]) (ro0 := []) (.inl rfl) rfl (hr1 Tryd.results38 (rvt (v := (.float _ _)) rfl)) [0] [] [_] [] [] _ rfl rfl (by kernel_rfl) rfl impl_nil (.inl ⟨⟨bn2⟩, _, by rw [(hby2 (notF (by assumption))).2.2]; exact degR_ok (hexR_ok (by assumption) (by rw [← word_length]; exact (hby2 (notF (by assumption))).1) (hby2 (notF (by assumption))).2.1) (by rw [← (hby2 (notF (by assumption))).2.2]; exact earth_ok hM (by assumption)), rfl, rfl, rfl⟩)
  · refine ⟨trivial, ?_⟩
    refine asg (.int _ _) rfl ?_
    refine jt ?_
    refine c_seq ?_
    refine c_seq ?_
    refine c_reg ?_
    refine mv (.int _ _) rfl ?_
    refine cmp true rfl rfl rfl ?_
    refine jt ?_
    refine c_true rfl ?_
    refine c_seq ?_
    refine c_reg ?_
    refine asg (.float _ _) rfl ?_
    refine jt ?_
    refine c_ret ?_
    exact j_end (own0 := [[(b, .cells (cat [pt s, p1 (.int .i64 ((p : Nat) : Int)), p1 (.int .i64 (-1))]) 66)]]) (ro0 := []) (.inl rfl) rfl (hr1 Tryd.results38 (rvt (v := (.float _ _)) rfl)) [0] [] [_] [] [] _ rfl rfl (by kernel_rfl) rfl impl_nil (.inr ⟨⟨0⟩, p, p, degR_l (hexR_no (by assumption)), rfl, rfl, rfl⟩)
set_option maxRecDepth 20000 in
set_option maxHeartbeats 4000000 in
theorem rdkey_bad (b : Nat) (s : Str) (p k : Nat) : Ct Tryd.prog 40 [.pointer (some ⟨b, 0, none⟩)] [[(b, .cells (cat [pt s, p1 (.int .i64 ((p : Nat) : Int)), p1 (.int .i64 ((k : Nat) : Int))]) 66)]] [] (fun v o r => v = val (zarr : Key) ∧ o = [[(b, .cells (cat [pt s, p1 (.int .i64 ((p : Nat) : Int)), p1 (.int .i64 ((k : Nat) : Int))]) 66)]] ∧ r = []) := by
  refine ct_enter Tryd.func40 rfl Tryd.ntmps40 (by kernel_rfl) rfl fun w0 => ?_
  refine c_seq ?_
  refine c_reg ?_
  refine alo [pt (zarr : (Arr UInt8 32))] _ z25 rfl fun b2 => ⟨trivial, ?_⟩
  refine jt ?_
  refine c_seq ?_
  refine c_reg ?_
  refine alo [pt (zarr : (Arr UInt8 32))] _ z25 rfl fun b3 => ⟨trivial, ?_⟩
  refine jt ?_
  refine c_seq ?_
  refine c_reg ?_
  refine mv (.pointer _) rfl ?_
  refine cal (rbegin_bad b s p k) [0] [1, 2] [_, _] rfl rfl rfl (by kernel_rfl) impl_nil rfl ?_; rintro _ _ _ ⟨rfl, rfl, rfl⟩; refine ⟨trivial, ?_⟩
  refine asg (.int _ _) rfl ?_
  refine jt ?_
  refine c_seq ?_
  refine c_seq ?_
  refine c_reg ?_
  refine mv (.int _ _) rfl ?_
  refine cmp true rfl rfl rfl ?_
  refine jt ?_
  refine c_true rfl ?_
  refine c_seq ?_
  refine c_reg ?_
  refine ldp 1 0 _ rfl rfl rfl rfl ty25 ?_
  refine stw 0 _ [pt (zarr : (Arr UInt8 32))] rfl rfl rfl rfl ty25 ⟨trivial, ?_⟩
  refine jt ?_
  refine c_ret ?_
  exact j_end (own0 := [[(b, .cells (cat [pt s, p1 (.int .i64 ((p : Nat) : Int)), p1 (.int .i64 ((k : Nat) : Int))]) 66)]]) (ro0 := []) (.inl rfl) rfl (hr1 Tryd.results40 (rvc (p := pt (zarr : (Arr UInt8 32))) 0 rfl rfl rfl ty25)) [2] [0, 1] [_] [_, _] [] _ rfl rfl (by kernel_rfl) rfl impl_nil (⟨rfl, rfl, rfl⟩)
set_option maxRecDepth 20000 in
set_option maxHeartbeats 4000000 in
theorem rdkey_ct (b : Nat) (s : Str) (p : Nat) (hs : s.length ≤ 140737488351232) (hp : p ≤ s.length) : Ct Tryd.prog 40 [.pointer (some ⟨b, 0, none⟩)] [[(b, .cells (cat [pt s, p1 (.int .i64 ((p : Nat) : Int)), p1 (.int .i64 (-1))]) 66)]] [] (fun v o r => (∃ (n : Key) (q : Nat), (∃ w : Str, hexR s 32 p = .inr (w, q) ∧ n = mkKey (hexb w 32)) ∧ v = val n ∧ o = [[(b, .cells (cat [pt s, p1 (.int .i64 ((q : Nat) : Int)), p1 (.int .i64 (-1))]) 66)]] ∧ r = []) ∨ (∃ (n : Key) (q a : Nat), hexR s 32 p = .inl q ∧ v = val n ∧ o = [[(b, .cells (cat [pt s, p1 (.int .i64 ((a : Nat) : Int)), p1 (.int .i64 ((q : Nat) : Int))]) 66)]] ∧ r = [])) := by
  have HWL := wlen_le s (p + 1)
  have HWW := word_length s (p + 1)
  refine ct_enter Tryd.func40 rfl Tryd.ntmps40 (by kernel_rfl) rfl fun w0 => ?_
  refine c_seq ?_
  refine c_reg ?_
  refine alo [pt (zarr : (Arr UInt8 32))] _ z25 rfl fun b2 => ⟨trivial, ?_⟩
  refine jt ?_
  refine c_seq ?_
  refine c_reg ?_
  refine alo [pt (zarr : (Arr UInt8 32))] _ z25 rfl fun b3 => ⟨trivial, ?_⟩
  refine jt ?_
  refine c_seq ?_
  refine c_reg ?_
  refine mv (.pointer _) rfl ?_
  refine cal (rbegin_ct b s p (by omega) (by omega)) [0] [1, 2] [_, _] rfl rfl rfl (by kernel_rfl) impl_nil rfl ?_; rintro _ _ _ (⟨hbl1, rfl, rfl, rfl⟩ | ⟨hbl1, rfl, rfl, rfl⟩)
  · have hpl1 := blk_lt hbl1; refine ⟨trivial, ?_⟩
    refine asg (.int _ _) rfl ?_
    refine jt ?_
    refine c_seq ?_
    refine c_seq ?_
    refine c_reg ?_
    refine mv (.int _ _) rfl ?_
    refine cmp false rfl rfl (by simp only [cmpV]; exact congrArg some (decide_eq_false (by omega))) ?_
    refine jt ?_
    refine c_false rfl ?_
    refine c_skip ?_
    refine e_then ?_
    refine c_seq ?_
    refine c_reg ?_
    refine mv (.pointer _) rfl ?_
    refine nlc rfl ?_
    refine fad rfl Tryd.underlying66 rfl ty9.sz ?_
    refine ldp 2 0 _ rfl rfl rfl rfl ty9 ?_
    refine mv (.int _ _) rfl ?_
    refine cal (wordEnd_ct s (p + 1) (by omega) (by omega)) [] [0, 1, 2] [_, _, _] rfl rfl rfl (by kernel_rfl) impl_nil rfl ?_; rintro _ _ _ ⟨rfl, rfl, rfl⟩; refine ⟨trivial, ?_⟩
    refine asg (.int _ _) rfl ?_
    refine jt ?_
    refine c_seq ?_
    refine c_reg ?_
    refine mv (.pointer _) rfl ?_
    refine nlc rfl ?_
    refine fad rfl Tryd.underlying66 rfl ty9.sz ?_
    refine ldp 2 0 _ rfl rfl rfl rfl ty9 ?_
    refine mv (.int _ _) rfl ?_
    refine mv (.int _ _) rfl ?_
    refine cutT (s := s) (p + 1) ((p + 1) + wlen s (p + 1)) rfl Tryd.underlying9 ⟨_, rfl⟩ ⟨_, rfl⟩ (by first | omega | (simp; done) | (simp; omega)) (by first | omega | (simp; done) | (simp; omega)) (List.take (((p + 1) + wlen s (p + 1)) - (p + 1)) (List.drop (p + 1) s)) rfl ?_
    refine j_re 27 (strV (word s (p + 1))) (congrArg strV (take_word s (p + 1))) ?_
    refine asg (.string _) rfl ?_
    refine jt ?_
    refine c_seq ?_
    refine c_reg ?_
    refine mv (.pointer _) rfl ?_
    refine mv (.int _ _) rfl ?_
    refine nlc rfl ?_
    refine fad rfl Tryd.underlying66 rfl ty3.sz ?_
    refine stp 2 1 _ (p1 (.int .i64 (((p + 1) + wlen s (p + 1) : Nat) : Int))) rfl rfl rfl rfl rfl rfl ty3 ⟨trivial, ?_⟩
    refine jt ?_
    refine c_seq ?_
    refine c_seq ?_
    refine c_reg ?_
    refine mv (.string _) rfl ?_
    refine lenT (s := (word s (p + 1))) rfl Tryd.underlying9 ?_
    refine cmp _ rfl rfl rfl ?_
    refine jt ?_
    refine c_cond rfl (fun h1 => ?_) (fun h1 => ?_)
    · replace h1 := ndt h1
      refine c_seq ?_
      refine c_reg ?_
      refine mv (.pointer _) rfl ?_
      refine mv (.int _ _) rfl ?_
      refine nlc rfl ?_
      refine fad rfl Tryd.underlying66 rfl ty3.sz ?_
      refine stp 2 2 _ (p1 (.int .i64 ((p + 1 : Nat) : Int))) rfl rfl rfl rfl rfl rfl ty3 ⟨trivial, ?_⟩
      refine jt ?_
      refine c_seq ?_
      refine c_reg ?_
      refine ldp 1 0 _ rfl rfl rfl rfl ty25 ?_
      refine stw 0 _ [pt (zarr : (Arr UInt8 32))] rfl rfl rfl rfl ty25 ⟨trivial, ?_⟩
      refine jt ?_
      refine c_ret ?_
      exact j_end (own0 := [[(b, .cells (cat [pt s, p1 (.int .i64 ((p : Nat) : Int)), p1 (.int .i64 (-1))]) 66)]]) (ro0 := []) (.inl rfl) rfl (hr1 Tryd.results40 (rvc (p := pt (zarr : (Arr UInt8 32))) 0 rfl rfl rfl ty25)) [2] [0, 1] [_] [_, _] [] _ rfl rfl (by kernel_rfl) rfl impl_nil (.inr ⟨(zarr : (Arr UInt8 32)), (p + 1), _, hexR_bad (by assumption) (by omega), rfl, rfl, rfl⟩)
    · replace h1 := ndf h1
      refine c_skip ?_
      refine e_then ?_
      refine c_seq ?_
      refine c_seq ?_
      refine c_reg ?_
      refine asg (.int _ _) rfl ?_
      refine jt ?_
      refine c_block ?_
      refine c_loop (σ := Nat × Key) (fun (i, k) => KB (word s (p + 1)) i k) (fun (i, k) => 32 - i) (fun (i, k) => [(7, .int .i64 (i : Int))]) (fun (i, k) => [[(b2, .cells (cat [pt (zarr : (Arr UInt8 32))]) 25)], [(b3, .cells (cat [pt k]) 25)], [(b, .cells (cat [pt s, p1 (.int .i64 (((p + 1) + wlen s (p + 1) : Nat) : Int)), p1 (.int .i64 (-1))]) 66)]]) (fun (i, k) => []) [7, 8, 9, 40, 41, 42, 43, 44, 45, 46, 47, 48, 49, 50, 51, 52, 53, 54, 55, 56, 57, 58, 59, 60, 61, 62, 63, 64, 65, 66, 67, 68, 69, 70, 71, 72] (0, zarr) (KB.start _) ⟨rfl, trivial⟩ rfl rfl ?_
      rintro ⟨i, k⟩ g1 hI1
      try dsimp only at hI1 ⊢
      have HI32 := hI1.i32
      refine c_seq ?_
      refine c_seq ?_
      refine c_reg ?_
      refine mv (.int _ _) rfl ?_
      refine cmp _ rfl rfl rfl ?_
      refine jt ?_
      refine c_cond rfl (fun h2 => ?_) (fun h2 => ?_)
      · replace h2 := of_decide_eq_true h2
        refine c_skip ?_
        refine e_then ?_
        refine c_seq ?_
        refine c_block ?_
        refine c_seq ?_
        refine c_dr [_, _, _] [] [(0, 0), (1, 0), (2, 0), (3, 0), (5, 0), (6, 0), (7, 0), (8, 0), (9, 0), (4, 1), (10, 1), (11, 0), (12, 0)] follows (by kernel_rfl) calm_body (keepS [0, 1, 2] rfl) ?_
        refine mv (.string _) rfl ?_
        refine mv (.int _ _) rfl ?_
        refine muli rfl rfl rfl (by omega) ?_
        refine idxT (s := (word s (p + 1))) (2 * i) rfl rfl Tryd.underlying9 (by omega) (by omega) ?_
        refine mv (.string _) rfl ?_
        refine mv (.int _ _) rfl ?_
        refine muli rfl rfl rfl (by omega) ?_
        refine addi rfl rfl rfl (by omega) ?_
        refine idxT (s := (word s (p + 1))) (2 * i + 1) rfl rfl Tryd.underlying9 (by omega) (by omega) ?_
        refine cal (digit_ct (List.getD (word s (p + 1)) (2 * i) 0)) [] [0, 1, 2] [_, _, _] rfl rfl rfl (by kernel_rfl) impl_nil rfl ?_; rintro _ _ _ ⟨rfl, rfl, rfl⟩; refine ⟨keepI [0, 1, 2] rfl, ?_⟩
        refine cal (digit_ct (List.getD (word s (p + 1)) (2 * i + 1) 0)) [] [0, 1, 2] [_, _, _] rfl rfl rfl (by kernel_rfl) impl_nil rfl ?_; rintro _ _ _ ⟨rfl, rfl, rfl⟩; refine ⟨keepI [0, 1, 2] rfl, ?_⟩
        refine asg (.int _ _) rfl ?_
        refine asg (.int _ _) rfl ?_
        refine jt ?_
        refine c_seq ?_
        refine c_seq ?_
        refine c_reg ?_
        refine mv (.int _ _) rfl ?_
        refine cmp _ rfl rfl rfl ?_
        refine mv (.bool _) rfl ?_
        refine jsplit 57 rfl (fun h3 => ?_) (fun h3 => ?_)
        · replace h3 := of_decide_eq_true h3
          refine g_off rfl rfl rfl rfl ?_
          refine g_off rfl rfl rfl rfl ?_
          refine pkt (.bool _) rfl rfl ?_
          refine jt ?_
          refine c_true rfl ?_
          refine c_seq ?_
          refine c_reg ?_
          refine mv (.pointer _) rfl ?_
          refine mv (.int _ _) rfl ?_
          refine nlc rfl ?_
          refine fad rfl Tryd.underlying66 rfl ty3.sz ?_
          refine stp 2 2 _ (p1 (.int .i64 ((p + 1 : Nat) : Int))) rfl rfl rfl rfl rfl rfl ty3 ⟨trivial, ?_⟩
          refine jt ?_
          refine c_seq ?_
          refine c_reg ?_
          refine ldp 1 0 _ rfl rfl rfl rfl ty25 ?_
          refine stw 0 _ [pt k] rfl rfl rfl rfl ty25 ⟨trivial, ?_⟩
          refine jt ?_
          refine c_ret ?_
          exact j_end (own0 := [[(b, .cells (cat [pt s, p1 (.int .i64 ((p : Nat) : Int)), p1 (.int .i64 (-1))]) 66)]]) (ro0 := []) (.inl rfl) rfl (hr1 Tryd.results40 (rvc (p := pt k) 0 rfl rfl rfl ty25)) [2] [0, 1] [_] [_, _] [] _ rfl rfl (by kernel_rfl) rfl impl_nil (.inr ⟨k, (p + 1), _, hexR_bad (by assumption) (by rw [← word_length]; exact KB.no (i := i) (by omega) (by omega) (by omega)), rfl, rfl, rfl⟩)
        · replace h3 := of_decide_eq_false h3
          refine g_on rfl rfl rfl ?_
          refine mv (.int _ _) rfl ?_
          refine g_on rfl rfl rfl ?_
          refine cmp _ rfl rfl rfl ?_
          refine pkf (.bool _) rfl rfl ?_
          refine jt ?_
          refine c_cond rfl (fun h4 => ?_) (fun h4 => ?_)
          · replace h4 := of_decide_eq_true h4
            refine c_seq ?_
            refine c_reg ?_
            refine mv (.pointer _) rfl ?_
            refine mv (.int _ _) rfl ?_
            refine nlc rfl ?_
            refine fad rfl Tryd.underlying66 rfl ty3.sz ?_
            refine stp 2 2 _ (p1 (.int .i64 ((p + 1 : Nat) : Int))) rfl rfl rfl rfl rfl rfl ty3 ⟨trivial, ?_⟩
            refine jt ?_
            refine c_seq ?_
            refine c_reg ?_
            refine ldp 1 0 _ rfl rfl rfl rfl ty25 ?_
            refine stw 0 _ [pt k] rfl rfl rfl rfl ty25 ⟨trivial, ?_⟩
            refine jt ?_
            refine c_ret ?_
            exact j_end (own0 := [[(b, .cells (cat [pt s, p1 (.int .i64 ((p : Nat) : Int)), p1 (.int .i64 (-1))]) 66)]]) (ro0 := []) (.inl rfl) rfl (hr1 Tryd.results40 (rvc (p := pt k) 0 rfl rfl rfl ty25)) [2] [0, 1] [_] [_, _] [] _ rfl rfl (by kernel_rfl) rfl impl_nil (.inr ⟨k, (p + 1), _, hexR_bad (by assumption) (by rw [← word_length]; exact KB.no (i := i) (by omega) (by omega) (by omega)), rfl, rfl, rfl⟩)
          · replace h4 := of_decide_eq_false h4
            refine c_skip ?_
            refine e_then ?_
            refine c_reg ?_
            refine mv (.int _ _) rfl ?_
            refine mv (.int _ _) rfl ?_
            refine mulU64 (a := (hexu (List.getD (word s (p + 1)) (2 * i) 0))) (b := (16 : UInt64)) rfl rfl ?_
            refine mv (.int _ _) rfl ?_
            refine addU64 (a := ((hexu (List.getD (word s (p + 1)) (2 * i) 0)) * (16 : UInt64))) (b := (hexu (List.getD (word s (p + 1)) (2 * i + 1) 0))) rfl rfl ?_
            refine cvNU8 (n := (((hexu (List.getD (word s (p + 1)) (2 * i) 0)) * (16 : UInt64)) + (hexu (List.getD (word s (p + 1)) (2 * i + 1) 0))).toNat) rfl Tryd.underlying23 Tryd.underlying5 ?_
            refine ixaA i rfl rfl Tryd.underlying25 ty5.sz rfl (by omega) ?_
            refine sta 1 0 _ k i (UInt8.ofNat ((((hexu (List.getD (word s (p + 1)) (2 * i) 0)) * (16 : UInt64)) + (hexu (List.getD (word s (p + 1)) (2 * i + 1) 0))).toNat)) rfl rfl rfl rfl rfl (by omega) ty5 ⟨trivial, ?_⟩
            refine jn ?_
            refine e_in ?_
            refine e_then ?_
            refine c_reg ?_
            refine mv (.int _ _) rfl ?_
            refine addi rfl rfl rfl (by omega) ?_
            refine asg (.int _ _) rfl ?_
            refine jn ?_
            exact e_loop (i + 1, (Arr.set k i (UInt8.ofNat ((((hexu (List.getD (word s (p + 1)) (2 * i) 0)) * (16 : UInt64)) + (hexu (List.getD (word s (p + 1)) (2 * i + 1) 0))).toNat)))) (KB.go hI1 (by omega) (by omega) (by omega)) (by show 32 - (i + 1) < 32 - i; omega) (⟨rfl, trivial⟩) rfl rfl rfl
      · replace h2 := of_decide_eq_false h2
        refine c_exit rfl ?_
        refine e_then ?_
        refine c_seq ?_
        refine c_reg ?_
        refine ldp 1 0 _ rfl rfl rfl rfl ty25 ?_
        refine stw 0 _ [pt k] rfl rfl rfl rfl ty25 ⟨trivial, ?_⟩
        refine jt ?_
        refine c_ret ?_
        exact j_end (own0 := [[(b, .cells (cat [pt s, p1 (.int .i64 ((p : Nat) : Int)), p1 (.int .i64 (-1))]) 66)]]) (ro0 := []) (.inl rfl) rfl (hr1 Tryd.results40 (rvc (p := pt k) 0 rfl rfl rfl ty25)) [2] [0, 1] [_] [_, _] [] _ rfl rfl (by kernel_rfl) rfl impl_nil (.inl ⟨k, _, by rw [(KB.fin hI1 (by omega) (by omega)).2.2]; exact ⟨_, hexR_ok (by assumption) (by rw [← word_length]; exact (KB.fin hI1 (by omega) (by omega)).1) (KB.fin hI1 (by omega) (by omega)).2.1, rfl⟩, rfl, rfl, rfl⟩)
  · refine ⟨trivial, ?_⟩
    refine asg (.int _ _) rfl ?_
    refine jt ?_
    refine c_seq ?_
    refine c_seq ?_
    refine c_reg ?_
    refine mv (.int _ _) rfl ?_
    refine cmp true rfl rfl rfl ?_
    refine jt ?_
    refine c_true rfl ?_
    refine c_seq ?_
    refine c_reg ?_
    refine ldp 1 0 _ rfl rfl rfl rfl ty25 ?_
    refine stw 0 _ [pt (zarr : (Arr UInt8 32))] rfl rfl rfl rfl ty25 ⟨trivial, ?_⟩
    refine jt ?_
    refine c_ret ?_
    exact j_end (own0 := [[(b, .cells (cat [pt s, p1 (.int .i64 ((p : Nat) : Int)), p1 (.int .i64 (-1))]) 66)]]) (ro0 := []) (.inl rfl) rfl (hr1 Tryd.results40 (rvc (p := pt (zarr : (Arr UInt8 32))) 0 rfl rfl rfl ty25)) [2] [0, 1] [_] [_, _] [] _ rfl rfl (by kernel_rfl) rfl impl_nil (.inr ⟨(zarr : (Arr UInt8 32)), p, p, hexR_no (by assumption), rfl, rfl, rfl⟩)
end Go.Proofs.YthpbiamicidakaaDoor
