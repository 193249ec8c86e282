/- Laws of an engine and of the program's functions, gathered. No condition. -/
import Derived.Test.YthpbiamicidakaaDoorQ6
import Derived.Test.YthpbiamicidakaaDoorProg
import Derived.Test.YthpbiamicidakaaDoorRows
import Derived.WalkKit
import Derived.ProofKit
import Derived.OpenShut
import Derived.Test.YthpbiamicidakaaDoorTie
import Derived.Test.YthpbiamicidakaaDoorCards
import Derived.SevenTiedAt
import Derived.ChangeMaps5
namespace Go.Proofs.YthpbiamicidakaaDoor
open Go Go.Proofs Go.PW
open Go.PW.Enc (enc val)
theorem lay66 : ∀ fs, Tryd.prog.underlying 66 = some (.struct fs) → Lay Tryd.prog fs [(0, 1), (1, 1), (2, 1)] := fun fs h => by rw [Tryd.underlying66] at h; cases h; unfold Lay; kernel_rfl
theorem z66 : Zt Tryd.prog 66 (.agg ⟨cat [pt ([] : Str), pt (0 : Int), pt (0 : Int)]⟩) := by unfold Zt; kernel_rfl
set_option maxRecDepth 20000 in
set_option maxHeartbeats 4000000 in
theorem RParse_ct (s : Str) (hs : s.length ≤ 140737488351232) : Ct Tryd.prog 13 [strV s] [] [tPow10 3, tDb64 8] (fun v w r => (∃ (c : Con) (ms : List UInt32) (o : Ow) (q : Nat), parseR s = .inr ((c, ms), q) ∧ ms.length ≤ 101 ∧ o.ok ms ∧ v = .tuple #[.agg ⟨cat [pt c.kind, pt c.text, p1 (.slice o.adr ms.length o.cap), pt c.lat, pt c.long, pt c.number, pt c.key]⟩, .int .i64 0, .int .i64 0] ∧ w = [o.seg ms 47] ∧ r = []) ∨ (∃ q : Nat, parseR s = .inl q ∧ v = .tuple #[.agg ⟨cat [pt (0 : Int), pt ([] : Str), p1 (.slice none 0 0), pt (⟨0⟩ : F64), pt (⟨0⟩ : F64), pt (0 : UInt64), pt (zarr : Key)]⟩, .int .i64 (q : Int), .int .i64 90] ∧ w = [] ∧ r = [])) := by
  have HWL := wlen_le s 0
  have HWW := word_length s 0
  have HW0 : (word s 0).length ≤ s.length := by omega
  refine ct_enter Tryd.func13 rfl Tryd.ntmps13 (by kernel_rfl) rfl fun w0 => ?_
  refine c_seq ?_
  refine c_reg ?_
  refine alo [pt (0 : Int), pt ([] : Str), p1 (.slice none 0 0), pt (⟨0⟩ : F64), pt (⟨0⟩ : F64), pt (0 : UInt64), pt (zarr : (Arr UInt8 32))] _ z30 rfl fun b2 => ⟨trivial, ?_⟩
  refine asg (.int _ _) rfl ?_
  refine asg (.int _ _) rfl ?_
  refine jt ?_
  refine c_seq ?_
  refine c_reg ?_
  refine mv (.string _) rfl ?_
  refine cal (wordEnd_ct s 0 (by omega) (by omega)) [] [0] [_] rfl rfl rfl (by kernel_rfl) impl_nil rfl ?_; rintro _ _ _ ⟨rfl, rfl, rfl⟩; refine ⟨trivial, ?_⟩
  refine j_re 9 (.int .i64 ((word s 0).length : Int)) (congrArg (fun n : Nat => Value.int .i64 (n : Int)) (show 0 + wlen s 0 = (word s 0).length by omega)) ?_
  refine asg (.int _ _) rfl ?_
  refine jt ?_
  refine c_seq ?_
  refine c_reg ?_
  refine mv (.string _) rfl ?_
  refine mv (.int _ _) rfl ?_
  refine bld [pt ([] : Str), pt (0 : Int), pt (0 : Int)] [(0, pt s), (1, p1 (.int .i64 ((word s 0).length : Int))), (2, pt (-1 : Int))] _ Tryd.underlying66 (lay66 _ Tryd.underlying66) z66 rfl rfl rfl ?_
  refine bxx [pt s, p1 (.int .i64 ((word s 0).length : Int)), pt (-1 : Int)] _ rfl rfl fun b13 => ⟨trivial, ?_⟩
  refine asg (.pointer _) rfl ?_
  refine jt ?_
  refine c_seq ?_
  refine c_reg ?_
  refine bld [pt (0 : Int), pt ([] : Str), p1 (.slice none 0 0), pt (⟨0⟩ : F64), pt (⟨0⟩ : F64), pt (0 : UInt64), pt (zarr : (Arr UInt8 32))] [] _ Tryd.underlying30 (lay30 _ Tryd.underlying30) z30 rfl rfl rfl ?_
  refine alo [pt (0 : Int), pt ([] : Str), p1 (.slice none 0 0), pt (⟨0⟩ : F64), pt (⟨0⟩ : F64), pt (0 : UInt64), pt (zarr : (Arr UInt8 32))] _ z30 rfl fun b7 => ⟨trivial, ?_⟩
  refine stw 2 _ [pt (0 : Int), pt ([] : Str), p1 (.slice none 0 0), pt (⟨0⟩ : F64), pt (⟨0⟩ : F64), pt (0 : UInt64), pt (zarr : (Arr UInt8 32))] rfl rfl rfl rfl ty30 ⟨trivial, ?_⟩
  refine jt ?_
  refine c_seq ?_
  refine c_seq ?_
  refine c_reg ?_
  refine mv (.string _) rfl ?_
  refine mv (.int _ _) rfl ?_
  refine cutT (s := s) 0 ((word s 0).length) rfl Tryd.underlying9 rfl ⟨_, rfl⟩ (by first | omega | (simp; done) | (simp; omega)) (by first | omega | (simp; done) | (simp; omega)) (List.take ((word s 0).length) s) (cut_lo _ _) ?_
  refine j_re 17 (strV (word s 0)) (congrArg strV (take_word0 s)) ?_
  refine jt ?_
  refine c_block ?_
  refine c_seq ?_
  refine c_reg ?_
  refine scmp (a := (word s 0)) (b := ([116, 101, 120, 116] : Str)) _ rfl rfl Tryd.underlying9 rfl ?_
  refine asg (.bool _) rfl ?_
  refine jt ?_
  refine c_cond rfl (fun h1 => ?_) (fun h1 => ?_)
  · replace h1 := of_decide_eq_true h1
    refine c_seq ?_
    refine c_reg ?_
    refine fad rfl Tryd.underlying30 rfl ty3.sz ?_
    refine stp 2 0 _ (pt (1 : Int)) rfl rfl rfl rfl rfl rfl ty3 ⟨trivial, ?_⟩
    refine jt ?_
    refine c_reg ?_
    refine mv (.pointer _) rfl ?_
    refine cal (rdtext_ct b13 s ((word s 0).length) (by omega) (by omega) 0 2000 (by omega) (by omega)) [1] [0, 2] [_, _] rfl rfl rfl (by kernel_rfl) (impl_cons (impl_at 1 rfl) impl_nil) rfl ?_; rintro _ _ _ (⟨tt1, tq1, htx1, rfl, rfl, rfl⟩ | ⟨tt1, tq1, ta1, htx1, rfl, rfl, rfl⟩)
    · have htx1b := textR_next htx1; refine ⟨trivial, ?_⟩
      refine fad rfl Tryd.underlying30 rfl ty9.sz ?_
      refine stp 1 1 _ (pt tt1) rfl rfl rfl rfl rfl rfl ty9 ⟨trivial, ?_⟩
      refine jn ?_
      refine e_in ?_
      refine e_then ?_
      refine c_seq ?_
      refine c_seq ?_
      refine c_reg ?_
      refine mv (.pointer _) rfl ?_
      refine nlc rfl ?_
      refine fad rfl Tryd.underlying66 rfl ty3.sz ?_
      refine ldp 2 2 _ rfl rfl rfl rfl ty3 ?_
      refine cmp true rfl rfl rfl ?_
      refine mv (.bool _) rfl ?_
      refine g_on rfl rfl rfl ?_
      refine mv (.pointer _) rfl ?_
      refine g_on rfl rfl rfl ?_
      refine nlc rfl ?_
      refine g_on rfl rfl rfl ?_
      refine fad rfl Tryd.underlying66 rfl ty3.sz ?_
      refine g_on rfl rfl rfl ?_
      refine ldp 2 1 _ rfl rfl rfl rfl ty3 ?_
      refine g_on rfl rfl rfl ?_
      refine mv (.string _) rfl ?_
      refine g_on rfl rfl rfl ?_
      refine lenT (s := s) rfl Tryd.underlying9 ?_
      refine g_on rfl rfl rfl ?_
      refine cmp _ rfl rfl rfl ?_
      refine pkt (.bool _) rfl rfl ?_
      refine jt ?_
      refine c_cond rfl (fun h2 => ?_) (fun h2 => ?_)
      · replace h2 := ndt h2
        refine c_reg ?_
        refine mv (.pointer _) rfl ?_
        refine mv (.pointer _) rfl ?_
        refine nlc rfl ?_
        refine fad rfl Tryd.underlying66 rfl ty3.sz ?_
        refine ldp 2 1 _ rfl rfl rfl rfl ty3 ?_
        refine nlc rfl ?_
        refine fad rfl Tryd.underlying66 rfl ty3.sz ?_
        refine stp 2 2 _ (p1 (.int .i64 ((tq1 : Nat) : Int))) rfl rfl rfl rfl rfl rfl ty3 ⟨trivial, ?_⟩
        refine jt ?_
        refine c_seq ?_
        refine c_seq ?_
        refine c_reg ?_
        refine mv (.pointer _) rfl ?_
        refine nlc rfl ?_
        refine fad rfl Tryd.underlying66 rfl ty3.sz ?_
        refine ldp 2 2 _ rfl rfl rfl rfl ty3 ?_
        refine cmp true rfl rfl (by simp only [cmpV]; exact congrArg some (decide_eq_true (by omega))) ?_
        refine jt ?_
        refine c_true rfl ?_
        refine c_seq ?_
        refine c_dr [_, _, _, _] [] [(0, 0), (1, 0), (2, 0), (3, 0), (4, 0), (5, 1), (6, 0), (7, 0)] follows (by kernel_rfl) calm_body (keepS [1, 2, 3, 4] rfl) ?_
        refine bld [pt (0 : Int), pt ([] : Str), p1 (.slice none 0 0), pt (⟨0⟩ : F64), pt (⟨0⟩ : F64), pt (0 : UInt64), pt (zarr : (Arr UInt8 32))] [] _ Tryd.underlying30 (lay30 _ Tryd.underlying30) z30 rfl rfl rfl ?_
        refine mv (.pointer _) rfl ?_
        refine nlc rfl ?_
        refine fad rfl Tryd.underlying66 rfl ty3.sz ?_
        refine ldp 1 2 _ rfl rfl rfl rfl ty3 ?_
        refine stw 0 _ [pt (0 : Int), pt ([] : Str), p1 (.slice none 0 0), pt (⟨0⟩ : F64), pt (⟨0⟩ : F64), pt (0 : UInt64), pt (zarr : (Arr UInt8 32))] rfl rfl rfl rfl ty30 ⟨keepI [1, 2, 3, 4] rfl, ?_⟩
        refine asg (.int _ _) rfl ?_
        refine asg (.int _ _) rfl ?_
        refine jt ?_
        refine c_ret ?_
        exact j_end (own0 := []) (ro0 := [tPow10 3, tDb64 8]) (.inl rfl) rfl (hr3 Tryd.results13 (rvc (p := pa [pt (0 : Int), pt ([] : Str), p1 (.slice none 0 0), pt (⟨0⟩ : F64), pt (⟨0⟩ : F64), pt (0 : UInt64), pt (zarr : (Arr UInt8 32))]) 0 rfl rfl rfl ty30) (rvt (v := (.int _ _)) rfl) (rvt (v := (.int _ _)) rfl)) [] [0, 1, 2] [] [_, _, _] [] _ rfl rfl (by kernel_rfl) rfl impl_nil (.inr ⟨_, parse_text_e (by assumption) htx1 (by omega), rfl, rfl, rfl⟩)
      · replace h2 := ndf h2
        refine c_skip ?_
        refine e_then ?_
        refine c_seq ?_
        refine c_seq ?_
        refine c_reg ?_
        refine mv (.pointer _) rfl ?_
        refine nlc rfl ?_
        refine fad rfl Tryd.underlying66 rfl ty3.sz ?_
        refine ldp 2 2 _ rfl rfl rfl rfl ty3 ?_
        refine cmp false rfl rfl rfl ?_
        refine jt ?_
        refine c_false rfl ?_
        refine c_skip ?_
        refine e_then ?_
        refine c_seq ?_
        refine c_reg ?_
        refine ldw 1 _ rfl rfl ty30 ?_
        refine stw 0 _ [pt (1 : Int), pt tt1, p1 (.slice none 0 0), pt (⟨0⟩ : F64), pt (⟨0⟩ : F64), pt (0 : UInt64), pt (zarr : (Arr UInt8 32))] rfl rfl rfl rfl ty30 ⟨trivial, ?_⟩
        refine asg (.int _ _) rfl ?_
        refine asg (.int _ _) rfl ?_
        refine jt ?_
        refine c_ret ?_
        refine e_addE ?_
        exact j_end (own0 := []) (ro0 := [tPow10 3, tDb64 8]) (.inl rfl) rfl (hr3 Tryd.results13 (rvc (p := pa [pt (1 : Int), pt tt1, p1 (.slice none 0 0), pt (⟨0⟩ : F64), pt (⟨0⟩ : F64), pt (0 : UInt64), pt (zarr : (Arr UInt8 32))]) 0 rfl rfl rfl ty30) (rvt (v := (.int _ _)) rfl) (rvt (v := (.int _ _)) rfl)) [3] [0, 1, 2] [_] [_, _, _] [] _ rfl rfl (by kernel_rfl) rfl impl_nil (.inl ⟨(⟨(1 : Int), tt1, (⟨0⟩ : F64), (⟨0⟩ : F64), (0 : UInt64), (zarr : (Arr UInt8 32))⟩ : Con), [], Ow.nil, _, (by have h := parse_text (by assumption) htx1 (by omega); exact h), by simp, Ow.nil_ok, rfl, rfl, rfl⟩)
    · refine ⟨trivial, ?_⟩
      refine fad rfl Tryd.underlying30 rfl ty9.sz ?_
      refine stp 1 1 _ (pt tt1) rfl rfl rfl rfl rfl rfl ty9 ⟨trivial, ?_⟩
      refine jn ?_
      refine e_in ?_
      refine e_then ?_
      refine c_seq ?_
      refine c_seq ?_
      refine c_reg ?_
      refine mv (.pointer _) rfl ?_
      refine nlc rfl ?_
      refine fad rfl Tryd.underlying66 rfl ty3.sz ?_
      refine ldp 2 2 _ rfl rfl rfl rfl ty3 ?_
      refine cmp false rfl rfl (by simp only [cmpV]; exact congrArg some (decide_eq_false (by omega))) ?_
      refine mv (.bool _) rfl ?_
      refine g_off rfl rfl rfl rfl ?_
      refine g_off rfl rfl rfl rfl ?_
      refine g_off rfl rfl rfl rfl ?_
      refine g_off rfl rfl rfl rfl ?_
      refine g_off rfl rfl rfl rfl ?_
      refine g_off rfl rfl rfl rfl ?_
      refine g_off rfl rfl rfl rfl ?_
      refine pkf (.bool _) rfl rfl ?_
      refine jt ?_
      refine c_false rfl ?_
      refine c_skip ?_
      refine e_then ?_
      refine c_seq ?_
      refine c_seq ?_
      refine c_reg ?_
      refine mv (.pointer _) rfl ?_
      refine nlc rfl ?_
      refine fad rfl Tryd.underlying66 rfl ty3.sz ?_
      refine ldp 2 2 _ rfl rfl rfl rfl ty3 ?_
      refine cmp true rfl rfl (by simp only [cmpV]; exact congrArg some (decide_eq_true (by omega))) ?_
      refine jt ?_
      refine c_true rfl ?_
      refine c_seq ?_
      refine c_dr [_, _, _, _] [] [(0, 0), (1, 0), (2, 0), (3, 0), (4, 0), (5, 1), (6, 0), (7, 0)] follows (by kernel_rfl) calm_body (keepS [1, 2, 3, 4] rfl) ?_
      refine bld [pt (0 : Int), pt ([] : Str), p1 (.slice none 0 0), pt (⟨0⟩ : F64), pt (⟨0⟩ : F64), pt (0 : UInt64), pt (zarr : (Arr UInt8 32))] [] _ Tryd.underlying30 (lay30 _ Tryd.underlying30) z30 rfl rfl rfl ?_
      refine mv (.pointer _) rfl ?_
      refine nlc rfl ?_
      refine fad rfl Tryd.underlying66 rfl ty3.sz ?_
      refine ldp 1 2 _ rfl rfl rfl rfl ty3 ?_
      refine stw 0 _ [pt (0 : Int), pt ([] : Str), p1 (.slice none 0 0), pt (⟨0⟩ : F64), pt (⟨0⟩ : F64), pt (0 : UInt64), pt (zarr : (Arr UInt8 32))] rfl rfl rfl rfl ty30 ⟨keepI [1, 2, 3, 4] rfl, ?_⟩
      refine asg (.int _ _) rfl ?_
      refine asg (.int _ _) rfl ?_
      refine jt ?_
      refine c_ret ?_
      exact j_end (own0 := []) (ro0 := [tPow10 3, tDb64 8]) (.inl rfl) rfl (hr3 Tryd.results13 (rvc (p := pa [pt (0 : Int), pt ([] : Str), p1 (.slice none 0 0), pt (⟨0⟩ : F64), pt (⟨0⟩ : F64), pt (0 : UInt64), pt (zarr : (Arr UInt8 32))]) 0 rfl rfl rfl ty30) (rvt (v := (.int _ _)) rfl) (rvt (v := (.int _ _)) rfl)) [] [0, 1, 2] [] [_, _, _] [] _ rfl rfl (by kernel_rfl) rfl impl_nil (.inr ⟨_, parse_text_f0 (by assumption) htx1, rfl, rfl, rfl⟩)
  · replace h1 := of_decide_eq_false h1
    refine c_seq ?_
    refine c_seq ?_
    refine c_reg ?_
    refine scmp (a := (word s 0)) (b := ([99, 97, 109, 101] : Str)) _ rfl rfl Tryd.underlying9 rfl ?_
    refine asg (.bool _) rfl ?_
    refine jt ?_
    refine c_cond rfl (fun h3 => ?_) (fun h3 => ?_)
    · replace h3 := of_decide_eq_true h3
      refine c_skip ?_
      refine e_then ?_
      refine c_cond rfl (fun h4 => ?_) (fun h4 => ?_)
      · replace h4 := of_decide_eq_true h4
        refine c_seq ?_
        refine c_reg ?_
        refine fad rfl Tryd.underlying30 rfl ty3.sz ?_
        refine stp 2 0 _ (pt (2 : Int)) rfl rfl rfl rfl rfl rfl ty3 ⟨trivial, ?_⟩
        refine fad rfl Tryd.underlying30 rfl ty23.sz ?_
        refine stp 2 5 _ (pt (1 : UInt64)) rfl rfl rfl rfl rfl rfl ty23 ⟨trivial, ?_⟩
        refine jt ?_
        refine c_seq ?_
        refine c_seq ?_
        refine c_reg ?_
        refine mv (.string _) rfl ?_
        refine mv (.int _ _) rfl ?_
        refine cutT (s := s) 0 ((word s 0).length) rfl Tryd.underlying9 rfl ⟨_, rfl⟩ (by first | omega | (simp; done) | (simp; omega)) (by first | omega | (simp; done) | (simp; omega)) (List.take ((word s 0).length) s) (cut_lo _ _) ?_
        refine j_re 34 (strV (word s 0)) (congrArg strV (take_word0 s)) ?_
        refine scmp (a := (word s 0)) (b := ([114, 101, 97, 100] : Str)) _ rfl rfl Tryd.underlying9 rfl ?_
        refine j_re 35 (.bool false) (congrArg Value.bool (decide_eq_false (fun hh => absurd ((show word s 0 = [99, 97, 109, 101] by assumption).symm.trans hh) (by decide)))) ?_
        refine jt ?_
        refine c_false rfl ?_
        refine c_skip ?_
        refine e_then ?_
        refine c_reg ?_
        refine mv (.pointer _) rfl ?_
        refine cal (rdmarks_ct b13 s ((word s 0).length) (by omega) (by omega)) [1] [0, 2] [_, _] rfl rfl rfl (by kernel_rfl) (impl_cons (impl_at 0 rfl) impl_nil) rfl ?_; rintro _ _ _ (⟨mo2, mm2, mq2, hmk2, hmk2b, hmk2o, rfl, rfl, rfl⟩ | ⟨mo2, mm2, mq2, ma2, hmk2, hmk2b, hmk2o, rfl, rfl, rfl⟩)
        · refine ⟨trivial, ?_⟩
          refine fad rfl Tryd.underlying30 rfl ty22.sz ?_
          refine stp 1 2 _ (p1 (.slice mo2.adr mm2.length mo2.cap)) rfl rfl rfl rfl rfl rfl ty22 ⟨trivial, ?_⟩
          refine jn ?_
          refine e_in ?_
          refine e_then ?_
          refine c_seq ?_
          refine c_seq ?_
          refine c_reg ?_
          refine mv (.pointer _) rfl ?_
          refine nlc rfl ?_
          refine fad rfl Tryd.underlying66 rfl ty3.sz ?_
          refine ldp 2 2 _ rfl rfl rfl rfl ty3 ?_
          refine cmp true rfl rfl rfl ?_
          refine mv (.bool _) rfl ?_
          refine g_on rfl rfl rfl ?_
          refine mv (.pointer _) rfl ?_
          refine g_on rfl rfl rfl ?_
          refine nlc rfl ?_
          refine g_on rfl rfl rfl ?_
          refine fad rfl Tryd.underlying66 rfl ty3.sz ?_
          refine g_on rfl rfl rfl ?_
          refine ldp 2 1 _ rfl rfl rfl rfl ty3 ?_
          refine g_on rfl rfl rfl ?_
          refine mv (.string _) rfl ?_
          refine g_on rfl rfl rfl ?_
          refine lenT (s := s) rfl Tryd.underlying9 ?_
          refine g_on rfl rfl rfl ?_
          refine cmp _ rfl rfl rfl ?_
          refine pkt (.bool _) rfl rfl ?_
          refine jt ?_
          refine c_cond rfl (fun h5 => ?_) (fun h5 => ?_)
          · replace h5 := ndt h5
            refine c_reg ?_
            refine mv (.pointer _) rfl ?_
            refine mv (.pointer _) rfl ?_
            refine nlc rfl ?_
            refine fad rfl Tryd.underlying66 rfl ty3.sz ?_
            refine ldp 2 1 _ rfl rfl rfl rfl ty3 ?_
            refine nlc rfl ?_
            refine fad rfl Tryd.underlying66 rfl ty3.sz ?_
            refine stp 2 2 _ (p1 (.int .i64 ((mq2 : Nat) : Int))) rfl rfl rfl rfl rfl rfl ty3 ⟨trivial, ?_⟩
            refine jt ?_
            refine c_seq ?_
            refine c_seq ?_
            refine c_reg ?_
            refine mv (.pointer _) rfl ?_
            refine nlc rfl ?_
            refine fad rfl Tryd.underlying66 rfl ty3.sz ?_
            refine ldp 2 2 _ rfl rfl rfl rfl ty3 ?_
            refine cmp true rfl rfl (by simp only [cmpV]; exact congrArg some (decide_eq_true (by omega))) ?_
            refine jt ?_
            refine c_true rfl ?_
            refine c_seq ?_
            refine c_dr [_, _, _, _, _] [] [(0, 0), (1, 0), (2, 0), (3, 0), (4, 0), (5, 1), (6, 0), (7, 0)] follows (by kernel_rfl) calm_body (keepS [1, 2, 3, 4, 5] rfl) ?_
            refine bld [pt (0 : Int), pt ([] : Str), p1 (.slice none 0 0), pt (⟨0⟩ : F64), pt (⟨0⟩ : F64), pt (0 : UInt64), pt (zarr : (Arr UInt8 32))] [] _ Tryd.underlying30 (lay30 _ Tryd.underlying30) z30 rfl rfl rfl ?_
            refine mv (.pointer _) rfl ?_
            refine nlc rfl ?_
            refine fad rfl Tryd.underlying66 rfl ty3.sz ?_
            refine ldp 1 2 _ rfl rfl rfl rfl ty3 ?_
            refine stw 0 _ [pt (0 : Int), pt ([] : Str), p1 (.slice none 0 0), pt (⟨0⟩ : F64), pt (⟨0⟩ : F64), pt (0 : UInt64), pt (zarr : (Arr UInt8 32))] rfl rfl rfl rfl ty30 ⟨keepI [1, 2, 3, 4, 5] rfl, ?_⟩
            refine asg (.int _ _) rfl ?_
            refine asg (.int _ _) rfl ?_
            refine jt ?_
            refine c_ret ?_
            exact j_end (own0 := []) (ro0 := [tPow10 3, tDb64 8]) (.inl rfl) rfl (hr3 Tryd.results13 (rvc (p := pa [pt (0 : Int), pt ([] : Str), p1 (.slice none 0 0), pt (⟨0⟩ : F64), pt (⟨0⟩ : F64), pt (0 : UInt64), pt (zarr : (Arr UInt8 32))]) 0 rfl rfl rfl ty30) (rvt (v := (.int _ _)) rfl) (rvt (v := (.int _ _)) rfl)) [] [0, 1, 2, 3] [] [_, _, _, _] [] _ rfl rfl (by kernel_rfl) rfl impl_nil (.inr ⟨_, parse_came_e (by assumption) hmk2 (by omega), rfl, rfl, rfl⟩)
          · replace h5 := ndf h5
            refine c_skip ?_
            refine e_then ?_
            refine c_seq ?_
            refine c_seq ?_
            refine c_reg ?_
            refine mv (.pointer _) rfl ?_
            refine nlc rfl ?_
            refine fad rfl Tryd.underlying66 rfl ty3.sz ?_
            refine ldp 2 2 _ rfl rfl rfl rfl ty3 ?_
            refine cmp false rfl rfl rfl ?_
            refine jt ?_
            refine c_false rfl ?_
            refine c_skip ?_
            refine e_then ?_
            refine c_seq ?_
            refine c_reg ?_
            refine ldw 1 _ rfl rfl ty30 ?_
            refine stw 0 _ [pt (2 : Int), pt ([] : Str), p1 (.slice mo2.adr mm2.length mo2.cap), pt (⟨0⟩ : F64), pt (⟨0⟩ : F64), pt (1 : UInt64), pt (zarr : (Arr UInt8 32))] rfl rfl rfl rfl ty30 ⟨trivial, ?_⟩
            refine asg (.int _ _) rfl ?_
            refine asg (.int _ _) rfl ?_
            refine jt ?_
            refine c_ret ?_
            exact j_end (own0 := []) (ro0 := [tPow10 3, tDb64 8]) (.inl rfl) rfl (hr3 Tryd.results13 (rvc (p := pa [pt (2 : Int), pt ([] : Str), p1 (.slice mo2.adr mm2.length mo2.cap), pt (⟨0⟩ : F64), pt (⟨0⟩ : F64), pt (1 : UInt64), pt (zarr : (Arr UInt8 32))]) 0 rfl rfl rfl ty30) (rvt (v := (.int _ _)) rfl) (rvt (v := (.int _ _)) rfl)) [3] [0, 1, 2] [_] [_, _, _] [] _ rfl rfl (by kernel_rfl) rfl impl_nil (.inl ⟨(⟨(2 : Int), ([] : Str), (⟨0⟩ : F64), (⟨0⟩ : F64), (1 : UInt64), (zarr : (Arr UInt8 32))⟩ : Con), mm2, mo2, _, (by have h := parse_came (by assumption) hmk2 (by omega); exact h), by omega, hmk2o, rfl, rfl, rfl⟩)
        · refine ⟨trivial, ?_⟩
          refine fad rfl Tryd.underlying30 rfl ty22.sz ?_
          refine stp 1 2 _ (p1 (.slice mo2.adr mm2.length mo2.cap)) rfl rfl rfl rfl rfl rfl ty22 ⟨trivial, ?_⟩
          refine jn ?_
          refine e_in ?_
          refine e_then ?_
          refine c_seq ?_
          refine c_seq ?_
          refine c_reg ?_
          refine mv (.pointer _) rfl ?_
          refine nlc rfl ?_
          refine fad rfl Tryd.underlying66 rfl ty3.sz ?_
          refine ldp 2 2 _ rfl rfl rfl rfl ty3 ?_
          refine cmp false rfl rfl (by simp only [cmpV]; exact congrArg some (decide_eq_false (by omega))) ?_
          refine mv (.bool _) rfl ?_
          refine g_off rfl rfl rfl rfl ?_
          refine g_off rfl rfl rfl rfl ?_
          refine g_off rfl rfl rfl rfl ?_
          refine g_off rfl rfl rfl rfl ?_
          refine g_off rfl rfl rfl rfl ?_
          refine g_off rfl rfl rfl rfl ?_
          refine g_off rfl rfl rfl rfl ?_
          refine pkf (.bool _) rfl rfl ?_
          refine jt ?_
          refine c_false rfl ?_
          refine c_skip ?_
          refine e_then ?_
          refine c_seq ?_
          refine c_seq ?_
          refine c_reg ?_
          refine mv (.pointer _) rfl ?_
          refine nlc rfl ?_
          refine fad rfl Tryd.underlying66 rfl ty3.sz ?_
          refine ldp 2 2 _ rfl rfl rfl rfl ty3 ?_
          refine cmp true rfl rfl (by simp only [cmpV]; exact congrArg some (decide_eq_true (by omega))) ?_
          refine jt ?_
          refine c_true rfl ?_
          refine c_seq ?_
          refine c_dr [_, _, _, _, _] [] [(0, 0), (1, 0), (2, 0), (3, 0), (4, 0), (5, 1), (6, 0), (7, 0)] follows (by kernel_rfl) calm_body (keepS [1, 2, 3, 4, 5] rfl) ?_
          refine bld [pt (0 : Int), pt ([] : Str), p1 (.slice none 0 0), pt (⟨0⟩ : F64), pt (⟨0⟩ : F64), pt (0 : UInt64), pt (zarr : (Arr UInt8 32))] [] _ Tryd.underlying30 (lay30 _ Tryd.underlying30) z30 rfl rfl rfl ?_
          refine mv (.pointer _) rfl ?_
          refine nlc rfl ?_
          refine fad rfl Tryd.underlying66 rfl ty3.sz ?_
          refine ldp 1 2 _ rfl rfl rfl rfl ty3 ?_
          refine stw 0 _ [pt (0 : Int), pt ([] : Str), p1 (.slice none 0 0), pt (⟨0⟩ : F64), pt (⟨0⟩ : F64), pt (0 : UInt64), pt (zarr : (Arr UInt8 32))] rfl rfl rfl rfl ty30 ⟨keepI [1, 2, 3, 4, 5] rfl, ?_⟩
          refine asg (.int _ _) rfl ?_
          refine asg (.int _ _) rfl ?_
          refine jt ?_
          refine c_ret ?_
          exact j_end (own0 := []) (ro0 := [tPow10 3, tDb64 8]) (.inl rfl) rfl (hr3 Tryd.results13 (rvc (p := pa [pt (0 : Int), pt ([] : Str), p1 (.slice none 0 0), pt (⟨0⟩ : F64), pt (⟨0⟩ : F64), pt (0 : UInt64), pt (zarr : (Arr UInt8 32))]) 0 rfl rfl rfl ty30) (rvt (v := (.int _ _)) rfl) (rvt (v := (.int _ _)) rfl)) [] [0, 1, 2, 3] [] [_, _, _, _] [] _ rfl rfl (by kernel_rfl) rfl impl_nil (.inr ⟨_, parse_came_f0 (by assumption) hmk2, rfl, rfl, rfl⟩)
      · replace h4 := of_decide_eq_false h4
        refine c_seq ?_
        refine c_reg ?_
        refine scmp (a := (word s 0)) (b := ([112, 108, 97, 99, 101] : Str)) _ rfl rfl Tryd.underlying9 rfl ?_
        refine asg (.bool _) rfl ?_
        refine jt ?_
        refine c_cond rfl (fun h6 => ?_) (fun h6 => ?_)
        · replace h6 := of_decide_eq_true h6
          refine c_seq ?_
          refine c_reg ?_
          refine fad rfl Tryd.underlying30 rfl ty3.sz ?_
          refine stp 2 0 _ (pt (3 : Int)) rfl rfl rfl rfl rfl rfl ty3 ⟨trivial, ?_⟩
          refine jt ?_
          refine c_seq ?_
          refine c_reg ?_
          refine mv (.pointer _) rfl ?_
          refine cal (rdfl_ct b13 s ((word s 0).length) (by omega) (by omega) (90 : UInt64) ⟨4636033603912859648⟩ (by decide) earth_90) [1] [0, 2] [_, _] rfl rfl rfl (by kernel_rfl) impl_nil rfl ?_; rintro _ _ _ (⟨df3, dq3, hdg3, rfl, rfl, rfl⟩ | ⟨df3, dq3, da3, hdg3, rfl, rfl, rfl⟩)
          · have hdg3b := degR_next hdg3; refine ⟨trivial, ?_⟩
            refine fad rfl Tryd.underlying30 rfl ty28.sz ?_
            refine stp 1 3 _ (pt df3) rfl rfl rfl rfl rfl rfl ty28 ⟨trivial, ?_⟩
            refine jt ?_
            refine c_seq ?_
            refine c_reg ?_
            refine mv (.pointer _) rfl ?_
            refine cal (rdfl_ct b13 s dq3 (by omega) (by omega) (180 : UInt64) ⟨4640537203540230144⟩ (by decide) earth_180) [2] [0, 1] [_, _] rfl rfl rfl (by kernel_rfl) impl_nil rfl ?_; rintro _ _ _ (⟨df4, dq4, hdg4, rfl, rfl, rfl⟩ | ⟨df4, dq4, da4, hdg4, rfl, rfl, rfl⟩)
            · have hdg4b := degR_next hdg4; refine ⟨trivial, ?_⟩
              refine fad rfl Tryd.underlying30 rfl ty28.sz ?_
              refine stp 1 4 _ (pt df4) rfl rfl rfl rfl rfl rfl ty28 ⟨trivial, ?_⟩
              refine jt ?_
              refine c_reg ?_
              refine mv (.pointer _) rfl ?_
              refine cal (rdtext_ct b13 s dq4 (by omega) (by omega) 0 200 (by omega) (by omega)) [2] [0, 1] [_, _] rfl rfl rfl (by kernel_rfl) (impl_cons (impl_at 1 rfl) impl_nil) rfl ?_; rintro _ _ _ (⟨tt5, tq5, htx5, rfl, rfl, rfl⟩ | ⟨tt5, tq5, ta5, htx5, rfl, rfl, rfl⟩)
              · have htx5b := textR_next htx5; refine ⟨trivial, ?_⟩
                refine fad rfl Tryd.underlying30 rfl ty9.sz ?_
                refine stp 1 1 _ (pt tt5) rfl rfl rfl rfl rfl rfl ty9 ⟨trivial, ?_⟩
                refine jn ?_
                refine e_in ?_
                refine e_then ?_
                refine c_seq ?_
                refine c_seq ?_
                refine c_reg ?_
                refine mv (.pointer _) rfl ?_
                refine nlc rfl ?_
                refine fad rfl Tryd.underlying66 rfl ty3.sz ?_
                refine ldp 2 2 _ rfl rfl rfl rfl ty3 ?_
                refine cmp true rfl rfl rfl ?_
                refine mv (.bool _) rfl ?_
                refine g_on rfl rfl rfl ?_
                refine mv (.pointer _) rfl ?_
                refine g_on rfl rfl rfl ?_
                refine nlc rfl ?_
                refine g_on rfl rfl rfl ?_
                refine fad rfl Tryd.underlying66 rfl ty3.sz ?_
                refine g_on rfl rfl rfl ?_
                refine ldp 2 1 _ rfl rfl rfl rfl ty3 ?_
                refine g_on rfl rfl rfl ?_
                refine mv (.string _) rfl ?_
                refine g_on rfl rfl rfl ?_
                refine lenT (s := s) rfl Tryd.underlying9 ?_
                refine g_on rfl rfl rfl ?_
                refine cmp _ rfl rfl rfl ?_
                refine pkt (.bool _) rfl rfl ?_
                refine jt ?_
                refine c_cond rfl (fun h7 => ?_) (fun h7 => ?_)
                · replace h7 := ndt h7
                  refine c_reg ?_
                  refine mv (.pointer _) rfl ?_
                  refine mv (.pointer _) rfl ?_
                  refine nlc rfl ?_
                  refine fad rfl Tryd.underlying66 rfl ty3.sz ?_
                  refine ldp 2 1 _ rfl rfl rfl rfl ty3 ?_
                  refine nlc rfl ?_
                  refine fad rfl Tryd.underlying66 rfl ty3.sz ?_
                  refine stp 2 2 _ (p1 (.int .i64 ((tq5 : Nat) : Int))) rfl rfl rfl rfl rfl rfl ty3 ⟨trivial, ?_⟩
                  refine jt ?_
                  refine c_seq ?_
                  refine c_seq ?_
                  refine c_reg ?_
                  refine mv (.pointer _) rfl ?_
                  refine nlc rfl ?_
                  refine fad rfl Tryd.underlying66 rfl ty3.sz ?_
                  refine ldp 2 2 _ rfl rfl rfl rfl ty3 ?_
                  refine cmp true rfl rfl (by simp only [cmpV]; exact congrArg some (decide_eq_true (by omega))) ?_
                  refine jt ?_
                  refine c_true rfl ?_
                  refine c_seq ?_
                  refine c_dr [_, _, _, _] [] [(0, 0), (1, 0), (2, 0), (3, 0), (4, 0), (5, 1), (6, 0), (7, 0)] follows (by kernel_rfl) calm_body (keepS [1, 2, 3, 4] rfl) ?_
                  refine bld [pt (0 : Int), pt ([] : Str), p1 (.slice none 0 0), pt (⟨0⟩ : F64), pt (⟨0⟩ : F64), pt (0 : UInt64), pt (zarr : (Arr UInt8 32))] [] _ Tryd.underlying30 (lay30 _ Tryd.underlying30) z30 rfl rfl rfl ?_
                  refine mv (.pointer _) rfl ?_
                  refine nlc rfl ?_
                  refine fad rfl Tryd.underlying66 rfl ty3.sz ?_
                  refine ldp 1 2 _ rfl rfl rfl rfl ty3 ?_
                  refine stw 0 _ [pt (0 : Int), pt ([] : Str), p1 (.slice none 0 0), pt (⟨0⟩ : F64), pt (⟨0⟩ : F64), pt (0 : UInt64), pt (zarr : (Arr UInt8 32))] rfl rfl rfl rfl ty30 ⟨keepI [1, 2, 3, 4] rfl, ?_⟩
                  refine asg (.int _ _) rfl ?_
                  refine asg (.int _ _) rfl ?_
                  refine jt ?_
                  refine c_ret ?_
                  exact j_end (own0 := []) (ro0 := [tPow10 3, tDb64 8]) (.inl rfl) rfl (hr3 Tryd.results13 (rvc (p := pa [pt (0 : Int), pt ([] : Str), p1 (.slice none 0 0), pt (⟨0⟩ : F64), pt (⟨0⟩ : F64), pt (0 : UInt64), pt (zarr : (Arr UInt8 32))]) 0 rfl rfl rfl ty30) (rvt (v := (.int _ _)) rfl) (rvt (v := (.int _ _)) rfl)) [] [0, 1, 2] [] [_, _, _] [] _ rfl rfl (by kernel_rfl) rfl impl_nil (.inr ⟨_, parse_place_e (by assumption) hdg3 hdg4 htx5 (by omega), rfl, rfl, rfl⟩)
                · replace h7 := ndf h7
                  refine c_skip ?_
                  refine e_then ?_
                  refine c_seq ?_
                  refine c_seq ?_
                  refine c_reg ?_
                  refine mv (.pointer _) rfl ?_
                  refine nlc rfl ?_
                  refine fad rfl Tryd.underlying66 rfl ty3.sz ?_
                  refine ldp 2 2 _ rfl rfl rfl rfl ty3 ?_
                  refine cmp false rfl rfl rfl ?_
                  refine jt ?_
                  refine c_false rfl ?_
                  refine c_skip ?_
                  refine e_then ?_
                  refine c_seq ?_
                  refine c_reg ?_
                  refine ldw 1 _ rfl rfl ty30 ?_
                  refine stw 0 _ [pt (3 : Int), pt tt5, p1 (.slice none 0 0), pt df3, pt df4, pt (0 : UInt64), pt (zarr : (Arr UInt8 32))] rfl rfl rfl rfl ty30 ⟨trivial, ?_⟩
                  refine asg (.int _ _) rfl ?_
                  refine asg (.int _ _) rfl ?_
                  refine jt ?_
                  refine c_ret ?_
                  refine e_addE ?_
                  exact j_end (own0 := []) (ro0 := [tPow10 3, tDb64 8]) (.inl rfl) rfl (hr3 Tryd.results13 (rvc (p := pa [pt (3 : Int), pt tt5, p1 (.slice none 0 0), pt df3, pt df4, pt (0 : UInt64), pt (zarr : (Arr UInt8 32))]) 0 rfl rfl rfl ty30) (rvt (v := (.int _ _)) rfl) (rvt (v := (.int _ _)) rfl)) [3] [0, 1, 2] [_] [_, _, _] [] _ rfl rfl (by kernel_rfl) rfl impl_nil (.inl ⟨(⟨(3 : Int), tt5, df3, df4, (0 : UInt64), (zarr : (Arr UInt8 32))⟩ : Con), [], Ow.nil, _, (by have h := parse_place (by assumption) hdg3 hdg4 htx5 (by omega); exact h), by simp, Ow.nil_ok, rfl, rfl, rfl⟩)
              · refine ⟨trivial, ?_⟩
                refine fad rfl Tryd.underlying30 rfl ty9.sz ?_
                refine stp 1 1 _ (pt tt5) rfl rfl rfl rfl rfl rfl ty9 ⟨trivial, ?_⟩
                refine jn ?_
                refine e_in ?_
                refine e_then ?_
                refine c_seq ?_
                refine c_seq ?_
                refine c_reg ?_
                refine mv (.pointer _) rfl ?_
                refine nlc rfl ?_
                refine fad rfl Tryd.underlying66 rfl ty3.sz ?_
                refine ldp 2 2 _ rfl rfl rfl rfl ty3 ?_
                refine cmp false rfl rfl (by simp only [cmpV]; exact congrArg some (decide_eq_false (by omega))) ?_
                refine mv (.bool _) rfl ?_
                refine g_off rfl rfl rfl rfl ?_
                refine g_off rfl rfl rfl rfl ?_
                refine g_off rfl rfl rfl rfl ?_
                refine g_off rfl rfl rfl rfl ?_
                refine g_off rfl rfl rfl rfl ?_
                refine g_off rfl rfl rfl rfl ?_
                refine g_off rfl rfl rfl rfl ?_
                refine pkf (.bool _) rfl rfl ?_
                refine jt ?_
                refine c_false rfl ?_
                refine c_skip ?_
                refine e_then ?_
                refine c_seq ?_
                refine c_seq ?_
                refine c_reg ?_
                refine mv (.pointer _) rfl ?_
                refine nlc rfl ?_
                refine fad rfl Tryd.underlying66 rfl ty3.sz ?_
                refine ldp 2 2 _ rfl rfl rfl rfl ty3 ?_
                refine cmp true rfl rfl (by simp only [cmpV]; exact congrArg some (decide_eq_true (by omega))) ?_
                refine jt ?_
                refine c_true rfl ?_
                refine c_seq ?_
                refine c_dr [_, _, _, _] [] [(0, 0), (1, 0), (2, 0), (3, 0), (4, 0), (5, 1), (6, 0), (7, 0)] follows (by kernel_rfl) calm_body (keepS [1, 2, 3, 4] rfl) ?_
                refine bld [pt (0 : Int), pt ([] : Str), p1 (.slice none 0 0), pt (⟨0⟩ : F64), pt (⟨0⟩ : F64), pt (0 : UInt64), pt (zarr : (Arr UInt8 32))] [] _ Tryd.underlying30 (lay30 _ Tryd.underlying30) z30 rfl rfl rfl ?_
                refine mv (.pointer _) rfl ?_
                refine nlc rfl ?_
                refine fad rfl Tryd.underlying66 rfl ty3.sz ?_
                refine ldp 1 2 _ rfl rfl rfl rfl ty3 ?_
                refine stw 0 _ [pt (0 : Int), pt ([] : Str), p1 (.slice none 0 0), pt (⟨0⟩ : F64), pt (⟨0⟩ : F64), pt (0 : UInt64), pt (zarr : (Arr UInt8 32))] rfl rfl rfl rfl ty30 ⟨keepI [1, 2, 3, 4] rfl, ?_⟩
                refine asg (.int _ _) rfl ?_
                refine asg (.int _ _) rfl ?_
                refine jt ?_
                refine c_ret ?_
                exact j_end (own0 := []) (ro0 := [tPow10 3, tDb64 8]) (.inl rfl) rfl (hr3 Tryd.results13 (rvc (p := pa [pt (0 : Int), pt ([] : Str), p1 (.slice none 0 0), pt (⟨0⟩ : F64), pt (⟨0⟩ : F64), pt (0 : UInt64), pt (zarr : (Arr UInt8 32))]) 0 rfl rfl rfl ty30) (rvt (v := (.int _ _)) rfl) (rvt (v := (.int _ _)) rfl)) [] [0, 1, 2] [] [_, _, _] [] _ rfl rfl (by kernel_rfl) rfl impl_nil (.inr ⟨_, parse_place_f2 (by assumption) hdg3 hdg4 htx5, rfl, rfl, rfl⟩)
            · refine ⟨trivial, ?_⟩
              refine fad rfl Tryd.underlying30 rfl ty28.sz ?_
              refine stp 1 4 _ (pt df4) rfl rfl rfl rfl rfl rfl ty28 ⟨trivial, ?_⟩
              refine jt ?_
              refine c_reg ?_
              refine mv (.pointer _) rfl ?_
              refine cal (rdtext_bad b13 s da4 dq4 0 200) [2] [0, 1] [_, _] rfl rfl rfl (by kernel_rfl) impl_nil rfl ?_; rintro _ _ _ ⟨rfl, rfl, rfl⟩; refine ⟨trivial, ?_⟩
              refine fad rfl Tryd.underlying30 rfl ty9.sz ?_
              refine stp 1 1 _ (pt ([] : Str)) rfl rfl rfl rfl rfl rfl ty9 ⟨trivial, ?_⟩
              refine jn ?_
              refine e_in ?_
              refine e_then ?_
              refine c_seq ?_
              refine c_seq ?_
              refine c_reg ?_
              refine mv (.pointer _) rfl ?_
              refine nlc rfl ?_
              refine fad rfl Tryd.underlying66 rfl ty3.sz ?_
              refine ldp 2 2 _ rfl rfl rfl rfl ty3 ?_
              refine cmp false rfl rfl (by simp only [cmpV]; exact congrArg some (decide_eq_false (by omega))) ?_
              refine mv (.bool _) rfl ?_
              refine g_off rfl rfl rfl rfl ?_
              refine g_off rfl rfl rfl rfl ?_
              refine g_off rfl rfl rfl rfl ?_
              refine g_off rfl rfl rfl rfl ?_
              refine g_off rfl rfl rfl rfl ?_
              refine g_off rfl rfl rfl rfl ?_
              refine g_off rfl rfl rfl rfl ?_
              refine pkf (.bool _) rfl rfl ?_
              refine jt ?_
              refine c_false rfl ?_
              refine c_skip ?_
              refine e_then ?_
              refine c_seq ?_
              refine c_seq ?_
              refine c_reg ?_
              refine mv (.pointer _) rfl ?_
              refine nlc rfl ?_
              refine fad rfl Tryd.underlying66 rfl ty3.sz ?_
              refine ldp 2 2 _ rfl rfl rfl rfl ty3 ?_
              refine cmp true rfl rfl (by simp only [cmpV]; exact congrArg some (decide_eq_true (by omega))) ?_
              refine jt ?_
              refine c_true rfl ?_
              refine c_seq ?_
              refine c_dr [_, _, _, _] [] [(0, 0), (1, 0), (2, 0), (3, 0), (4, 0), (5, 1), (6, 0), (7, 0)] follows (by kernel_rfl) calm_body (keepS [1, 2, 3, 4] rfl) ?_
              refine bld [pt (0 : Int), pt ([] : Str), p1 (.slice none 0 0), pt (⟨0⟩ : F64), pt (⟨0⟩ : F64), pt (0 : UInt64), pt (zarr : (Arr UInt8 32))] [] _ Tryd.underlying30 (lay30 _ Tryd.underlying30) z30 rfl rfl rfl ?_
              refine mv (.pointer _) rfl ?_
              refine nlc rfl ?_
              refine fad rfl Tryd.underlying66 rfl ty3.sz ?_
              refine ldp 1 2 _ rfl rfl rfl rfl ty3 ?_
              refine stw 0 _ [pt (0 : Int), pt ([] : Str), p1 (.slice none 0 0), pt (⟨0⟩ : F64), pt (⟨0⟩ : F64), pt (0 : UInt64), pt (zarr : (Arr UInt8 32))] rfl rfl rfl rfl ty30 ⟨keepI [1, 2, 3, 4] rfl, ?_⟩
              refine asg (.int _ _) rfl ?_
              refine asg (.int _ _) rfl ?_
              refine jt ?_
              refine c_ret ?_
              exact j_end (own0 := []) (ro0 := [tPow10 3, tDb64 8]) (.inl rfl) rfl (hr3 Tryd.results13 (rvc (p := pa [pt (0 : Int), pt ([] : Str), p1 (.slice none 0 0), pt (⟨0⟩ : F64), pt (⟨0⟩ : F64), pt (0 : UInt64), pt (zarr : (Arr UInt8 32))]) 0 rfl rfl rfl ty30) (rvt (v := (.int _ _)) rfl) (rvt (v := (.int _ _)) rfl)) [] [0, 1, 2] [] [_, _, _] [] _ rfl rfl (by kernel_rfl) rfl impl_nil (.inr ⟨_, parse_place_f1 (by assumption) hdg3 hdg4, rfl, rfl, rfl⟩)
          · refine ⟨trivial, ?_⟩
            refine fad rfl Tryd.underlying30 rfl ty28.sz ?_
            refine stp 1 3 _ (pt df3) rfl rfl rfl rfl rfl rfl ty28 ⟨trivial, ?_⟩
            refine jt ?_
            refine c_seq ?_
            refine c_reg ?_
            refine mv (.pointer _) rfl ?_
            refine cal (rdfl_bad b13 s da3 dq3 (180 : UInt64)) [2] [0, 1] [_, _] rfl rfl rfl (by kernel_rfl) impl_nil rfl ?_; rintro _ _ _ ⟨rfl, rfl, rfl⟩; refine ⟨trivial, ?_⟩
            refine fad rfl Tryd.underlying30 rfl ty28.sz ?_
            refine stp 1 4 _ (pt (⟨0⟩ : F64)) rfl rfl rfl rfl rfl rfl ty28 ⟨trivial, ?_⟩
            refine jt ?_
            refine c_reg ?_
            refine mv (.pointer _) rfl ?_
            refine cal (rdtext_bad b13 s da3 dq3 0 200) [2] [0, 1] [_, _] rfl rfl rfl (by kernel_rfl) impl_nil rfl ?_; rintro _ _ _ ⟨rfl, rfl, rfl⟩; refine ⟨trivial, ?_⟩
            refine fad rfl Tryd.underlying30 rfl ty9.sz ?_
            refine stp 1 1 _ (pt ([] : Str)) rfl rfl rfl rfl rfl rfl ty9 ⟨trivial, ?_⟩
            refine jn ?_
            refine e_in ?_
            refine e_then ?_
            refine c_seq ?_
            refine c_seq ?_
            refine c_reg ?_
            refine mv (.pointer _) rfl ?_
            refine nlc rfl ?_
            refine fad rfl Tryd.underlying66 rfl ty3.sz ?_
            refine ldp 2 2 _ rfl rfl rfl rfl ty3 ?_
            refine cmp false rfl rfl (by simp only [cmpV]; exact congrArg some (decide_eq_false (by omega))) ?_
            refine mv (.bool _) rfl ?_
            refine g_off rfl rfl rfl rfl ?_
            refine g_off rfl rfl rfl rfl ?_
            refine g_off rfl rfl rfl rfl ?_
            refine g_off rfl rfl rfl rfl ?_
            refine g_off rfl rfl rfl rfl ?_
            refine g_off rfl rfl rfl rfl ?_
            refine g_off rfl rfl rfl rfl ?_
            refine pkf (.bool _) rfl rfl ?_
            refine jt ?_
            refine c_false rfl ?_
            refine c_skip ?_
            refine e_then ?_
            refine c_seq ?_
            refine c_seq ?_
            refine c_reg ?_
            refine mv (.pointer _) rfl ?_
            refine nlc rfl ?_
            refine fad rfl Tryd.underlying66 rfl ty3.sz ?_
            refine ldp 2 2 _ rfl rfl rfl rfl ty3 ?_
            refine cmp true rfl rfl (by simp only [cmpV]; exact congrArg some (decide_eq_true (by omega))) ?_
            refine jt ?_
            refine c_true rfl ?_
            refine c_seq ?_
            refine c_dr [_, _, _, _] [] [(0, 0), (1, 0), (2, 0), (3, 0), (4, 0), (5, 1), (6, 0), (7, 0)] follows (by kernel_rfl) calm_body (keepS [1, 2, 3, 4] rfl) ?_
            refine bld [pt (0 : Int), pt ([] : Str), p1 (.slice none 0 0), pt (⟨0⟩ : F64), pt (⟨0⟩ : F64), pt (0 : UInt64), pt (zarr : (Arr UInt8 32))] [] _ Tryd.underlying30 (lay30 _ Tryd.underlying30) z30 rfl rfl rfl ?_
            refine mv (.pointer _) rfl ?_
            refine nlc rfl ?_
            refine fad rfl Tryd.underlying66 rfl ty3.sz ?_
            refine ldp 1 2 _ rfl rfl rfl rfl ty3 ?_
            refine stw 0 _ [pt (0 : Int), pt ([] : Str), p1 (.slice none 0 0), pt (⟨0⟩ : F64), pt (⟨0⟩ : F64), pt (0 : UInt64), pt (zarr : (Arr UInt8 32))] rfl rfl rfl rfl ty30 ⟨keepI [1, 2, 3, 4] rfl, ?_⟩
            refine asg (.int _ _) rfl ?_
            refine asg (.int _ _) rfl ?_
            refine jt ?_
            refine c_ret ?_
            exact j_end (own0 := []) (ro0 := [tPow10 3, tDb64 8]) (.inl rfl) rfl (hr3 Tryd.results13 (rvc (p := pa [pt (0 : Int), pt ([] : Str), p1 (.slice none 0 0), pt (⟨0⟩ : F64), pt (⟨0⟩ : F64), pt (0 : UInt64), pt (zarr : (Arr UInt8 32))]) 0 rfl rfl rfl ty30) (rvt (v := (.int _ _)) rfl) (rvt (v := (.int _ _)) rfl)) [] [0, 1, 2] [] [_, _, _] [] _ rfl rfl (by kernel_rfl) rfl impl_nil (.inr ⟨_, parse_place_f0 (by assumption) hdg3, rfl, rfl, rfl⟩)
        · replace h6 := of_decide_eq_false h6
          refine c_seq ?_
          refine c_reg ?_
          refine scmp (a := (word s 0)) (b := ([114, 101, 97, 99, 116] : Str)) _ rfl rfl Tryd.underlying9 rfl ?_
          refine asg (.bool _) rfl ?_
          refine jt ?_
          refine c_cond rfl (fun h8 => ?_) (fun h8 => ?_)
          · replace h8 := of_decide_eq_true h8
            refine c_seq ?_
            refine c_reg ?_
            refine fad rfl Tryd.underlying30 rfl ty3.sz ?_
            refine stp 2 0 _ (pt (4 : Int)) rfl rfl rfl rfl rfl rfl ty3 ⟨trivial, ?_⟩
            refine jt ?_
            refine c_seq ?_
            refine c_reg ?_
            refine mv (.pointer _) rfl ?_
            refine cal (rdnum_ct b13 s ((word s 0).length) (by omega) (by omega) (4294967295 : UInt64) (by decide)) [1] [0, 2] [_, _] rfl rfl rfl (by kernel_rfl) (impl_cons (impl_at 0 rfl) impl_nil) rfl ?_; rintro _ _ _ (⟨nn9, nq9, hnm9, rfl, rfl, rfl⟩ | ⟨nn9, nq9, na9, hnm9, rfl, rfl, rfl⟩)
            · have hnm9b := numR_next hnm9; refine ⟨trivial, ?_⟩
              refine fad rfl Tryd.underlying30 rfl ty23.sz ?_
              refine stp 1 5 _ (pt nn9) rfl rfl rfl rfl rfl rfl ty23 ⟨trivial, ?_⟩
              refine jt ?_
              refine c_reg ?_
              refine mv (.pointer _) rfl ?_
              refine cal (rdtext_ct b13 s nq9 (by omega) (by omega) 1 64 (by omega) (by omega)) [2] [0, 1] [_, _] rfl rfl rfl (by kernel_rfl) (impl_cons (impl_at 1 rfl) impl_nil) rfl ?_; rintro _ _ _ (⟨tt10, tq10, htx10, rfl, rfl, rfl⟩ | ⟨tt10, tq10, ta10, htx10, rfl, rfl, rfl⟩)
              · have htx10b := textR_next htx10; refine ⟨trivial, ?_⟩
                refine fad rfl Tryd.underlying30 rfl ty9.sz ?_
                refine stp 1 1 _ (pt tt10) rfl rfl rfl rfl rfl rfl ty9 ⟨trivial, ?_⟩
                refine jn ?_
                refine e_in ?_
                refine e_then ?_
                refine c_seq ?_
                refine c_seq ?_
                refine c_reg ?_
                refine mv (.pointer _) rfl ?_
                refine nlc rfl ?_
                refine fad rfl Tryd.underlying66 rfl ty3.sz ?_
                refine ldp 2 2 _ rfl rfl rfl rfl ty3 ?_
                refine cmp true rfl rfl rfl ?_
                refine mv (.bool _) rfl ?_
                refine g_on rfl rfl rfl ?_
                refine mv (.pointer _) rfl ?_
                refine g_on rfl rfl rfl ?_
                refine nlc rfl ?_
                refine g_on rfl rfl rfl ?_
                refine fad rfl Tryd.underlying66 rfl ty3.sz ?_
                refine g_on rfl rfl rfl ?_
                refine ldp 2 1 _ rfl rfl rfl rfl ty3 ?_
                refine g_on rfl rfl rfl ?_
                refine mv (.string _) rfl ?_
                refine g_on rfl rfl rfl ?_
                refine lenT (s := s) rfl Tryd.underlying9 ?_
                refine g_on rfl rfl rfl ?_
                refine cmp _ rfl rfl rfl ?_
                refine pkt (.bool _) rfl rfl ?_
                refine jt ?_
                refine c_cond rfl (fun h9 => ?_) (fun h9 => ?_)
                · replace h9 := ndt h9
                  refine c_reg ?_
                  refine mv (.pointer _) rfl ?_
                  refine mv (.pointer _) rfl ?_
                  refine nlc rfl ?_
                  refine fad rfl Tryd.underlying66 rfl ty3.sz ?_
                  refine ldp 2 1 _ rfl rfl rfl rfl ty3 ?_
                  refine nlc rfl ?_
                  refine fad rfl Tryd.underlying66 rfl ty3.sz ?_
                  refine stp 2 2 _ (p1 (.int .i64 ((tq10 : Nat) : Int))) rfl rfl rfl rfl rfl rfl ty3 ⟨trivial, ?_⟩
                  refine jt ?_
                  refine c_seq ?_
                  refine c_seq ?_
                  refine c_reg ?_
                  refine mv (.pointer _) rfl ?_
                  refine nlc rfl ?_
                  refine fad rfl Tryd.underlying66 rfl ty3.sz ?_
                  refine ldp 2 2 _ rfl rfl rfl rfl ty3 ?_
                  refine cmp true rfl rfl (by simp only [cmpV]; exact congrArg some (decide_eq_true (by omega))) ?_
                  refine jt ?_
                  refine c_true rfl ?_
                  refine c_seq ?_
                  refine c_dr [_, _, _, _] [] [(0, 0), (1, 0), (2, 0), (3, 0), (4, 0), (5, 1), (6, 0), (7, 0)] follows (by kernel_rfl) calm_body (keepS [1, 2, 3, 4] rfl) ?_
                  refine bld [pt (0 : Int), pt ([] : Str), p1 (.slice none 0 0), pt (⟨0⟩ : F64), pt (⟨0⟩ : F64), pt (0 : UInt64), pt (zarr : (Arr UInt8 32))] [] _ Tryd.underlying30 (lay30 _ Tryd.underlying30) z30 rfl rfl rfl ?_
                  refine mv (.pointer _) rfl ?_
                  refine nlc rfl ?_
                  refine fad rfl Tryd.underlying66 rfl ty3.sz ?_
                  refine ldp 1 2 _ rfl rfl rfl rfl ty3 ?_
                  refine stw 0 _ [pt (0 : Int), pt ([] : Str), p1 (.slice none 0 0), pt (⟨0⟩ : F64), pt (⟨0⟩ : F64), pt (0 : UInt64), pt (zarr : (Arr UInt8 32))] rfl rfl rfl rfl ty30 ⟨keepI [1, 2, 3, 4] rfl, ?_⟩
                  refine asg (.int _ _) rfl ?_
                  refine asg (.int _ _) rfl ?_
                  refine jt ?_
                  refine c_ret ?_
                  exact j_end (own0 := []) (ro0 := [tPow10 3, tDb64 8]) (.inl rfl) rfl (hr3 Tryd.results13 (rvc (p := pa [pt (0 : Int), pt ([] : Str), p1 (.slice none 0 0), pt (⟨0⟩ : F64), pt (⟨0⟩ : F64), pt (0 : UInt64), pt (zarr : (Arr UInt8 32))]) 0 rfl rfl rfl ty30) (rvt (v := (.int _ _)) rfl) (rvt (v := (.int _ _)) rfl)) [] [0, 1, 2] [] [_, _, _] [] _ rfl rfl (by kernel_rfl) rfl impl_nil (.inr ⟨_, parse_react_e (by assumption) hnm9 htx10 (by omega), rfl, rfl, rfl⟩)
                · replace h9 := ndf h9
                  refine c_skip ?_
                  refine e_then ?_
                  refine c_seq ?_
                  refine c_seq ?_
                  refine c_reg ?_
                  refine mv (.pointer _) rfl ?_
                  refine nlc rfl ?_
                  refine fad rfl Tryd.underlying66 rfl ty3.sz ?_
                  refine ldp 2 2 _ rfl rfl rfl rfl ty3 ?_
                  refine cmp false rfl rfl rfl ?_
                  refine jt ?_
                  refine c_false rfl ?_
                  refine c_skip ?_
                  refine e_then ?_
                  refine c_seq ?_
                  refine c_reg ?_
                  refine ldw 1 _ rfl rfl ty30 ?_
                  refine stw 0 _ [pt (4 : Int), pt tt10, p1 (.slice none 0 0), pt (⟨0⟩ : F64), pt (⟨0⟩ : F64), pt nn9, pt (zarr : (Arr UInt8 32))] rfl rfl rfl rfl ty30 ⟨trivial, ?_⟩
                  refine asg (.int _ _) rfl ?_
                  refine asg (.int _ _) rfl ?_
                  refine jt ?_
                  refine c_ret ?_
                  refine e_addE ?_
                  exact j_end (own0 := []) (ro0 := [tPow10 3, tDb64 8]) (.inl rfl) rfl (hr3 Tryd.results13 (rvc (p := pa [pt (4 : Int), pt tt10, p1 (.slice none 0 0), pt (⟨0⟩ : F64), pt (⟨0⟩ : F64), pt nn9, pt (zarr : (Arr UInt8 32))]) 0 rfl rfl rfl ty30) (rvt (v := (.int _ _)) rfl) (rvt (v := (.int _ _)) rfl)) [3] [0, 1, 2] [_] [_, _, _] [] _ rfl rfl (by kernel_rfl) rfl impl_nil (.inl ⟨(⟨(4 : Int), tt10, (⟨0⟩ : F64), (⟨0⟩ : F64), nn9, (zarr : (Arr UInt8 32))⟩ : Con), [], Ow.nil, _, (by have h := parse_react (by assumption) hnm9 htx10 (by omega); rw [UInt64.ofNat_toNat] at h; exact h), by simp, Ow.nil_ok, rfl, rfl, rfl⟩)
              · refine ⟨trivial, ?_⟩
                refine fad rfl Tryd.underlying30 rfl ty9.sz ?_
                refine stp 1 1 _ (pt tt10) rfl rfl rfl rfl rfl rfl ty9 ⟨trivial, ?_⟩
                refine jn ?_
                refine e_in ?_
                refine e_then ?_
                refine c_seq ?_
                refine c_seq ?_
                refine c_reg ?_
                refine mv (.pointer _) rfl ?_
                refine nlc rfl ?_
                refine fad rfl Tryd.underlying66 rfl ty3.sz ?_
                refine ldp 2 2 _ rfl rfl rfl rfl ty3 ?_
                refine cmp false rfl rfl (by simp only [cmpV]; exact congrArg some (decide_eq_false (by omega))) ?_
                refine mv (.bool _) rfl ?_
                refine g_off rfl rfl rfl rfl ?_
                refine g_off rfl rfl rfl rfl ?_
                refine g_off rfl rfl rfl rfl ?_
                refine g_off rfl rfl rfl rfl ?_
                refine g_off rfl rfl rfl rfl ?_
                refine g_off rfl rfl rfl rfl ?_
                refine g_off rfl rfl rfl rfl ?_
                refine pkf (.bool _) rfl rfl ?_
                refine jt ?_
                refine c_false rfl ?_
                refine c_skip ?_
                refine e_then ?_
                refine c_seq ?_
                refine c_seq ?_
                refine c_reg ?_
                refine mv (.pointer _) rfl ?_
                refine nlc rfl ?_
                refine fad rfl Tryd.underlying66 rfl ty3.sz ?_
                refine ldp 2 2 _ rfl rfl rfl rfl ty3 ?_
                refine cmp true rfl rfl (by simp only [cmpV]; exact congrArg some (decide_eq_true (by omega))) ?_
                refine jt ?_
                refine c_true rfl ?_
                refine c_seq ?_
                refine c_dr [_, _, _, _] [] [(0, 0), (1, 0), (2, 0), (3, 0), (4, 0), (5, 1), (6, 0), (7, 0)] follows (by kernel_rfl) calm_body (keepS [1, 2, 3, 4] rfl) ?_
                refine bld [pt (0 : Int), pt ([] : Str), p1 (.slice none 0 0), pt (⟨0⟩ : F64), pt (⟨0⟩ : F64), pt (0 : UInt64), pt (zarr : (Arr UInt8 32))] [] _ Tryd.underlying30 (lay30 _ Tryd.underlying30) z30 rfl rfl rfl ?_
                refine mv (.pointer _) rfl ?_
                refine nlc rfl ?_
                refine fad rfl Tryd.underlying66 rfl ty3.sz ?_
                refine ldp 1 2 _ rfl rfl rfl rfl ty3 ?_
                refine stw 0 _ [pt (0 : Int), pt ([] : Str), p1 (.slice none 0 0), pt (⟨0⟩ : F64), pt (⟨0⟩ : F64), pt (0 : UInt64), pt (zarr : (Arr UInt8 32))] rfl rfl rfl rfl ty30 ⟨keepI [1, 2, 3, 4] rfl, ?_⟩
                refine asg (.int _ _) rfl ?_
                refine asg (.int _ _) rfl ?_
                refine jt ?_
                refine c_ret ?_
                exact j_end (own0 := []) (ro0 := [tPow10 3, tDb64 8]) (.inl rfl) rfl (hr3 Tryd.results13 (rvc (p := pa [pt (0 : Int), pt ([] : Str), p1 (.slice none 0 0), pt (⟨0⟩ : F64), pt (⟨0⟩ : F64), pt (0 : UInt64), pt (zarr : (Arr UInt8 32))]) 0 rfl rfl rfl ty30) (rvt (v := (.int _ _)) rfl) (rvt (v := (.int _ _)) rfl)) [] [0, 1, 2] [] [_, _, _] [] _ rfl rfl (by kernel_rfl) rfl impl_nil (.inr ⟨_, parse_react_f1 (by assumption) hnm9 htx10, rfl, rfl, rfl⟩)
            · refine ⟨trivial, ?_⟩
              refine fad rfl Tryd.underlying30 rfl ty23.sz ?_
              refine stp 1 5 _ (pt nn9) rfl rfl rfl rfl rfl rfl ty23 ⟨trivial, ?_⟩
              refine jt ?_
              refine c_reg ?_
              refine mv (.pointer _) rfl ?_
              refine cal (rdtext_bad b13 s na9 nq9 1 64) [2] [0, 1] [_, _] rfl rfl rfl (by kernel_rfl) impl_nil rfl ?_; rintro _ _ _ ⟨rfl, rfl, rfl⟩; refine ⟨trivial, ?_⟩
              refine fad rfl Tryd.underlying30 rfl ty9.sz ?_
              refine stp 1 1 _ (pt ([] : Str)) rfl rfl rfl rfl rfl rfl ty9 ⟨trivial, ?_⟩
              refine jn ?_
              refine e_in ?_
              refine e_then ?_
              refine c_seq ?_
              refine c_seq ?_
              refine c_reg ?_
              refine mv (.pointer _) rfl ?_
              refine nlc rfl ?_
              refine fad rfl Tryd.underlying66 rfl ty3.sz ?_
              refine ldp 2 2 _ rfl rfl rfl rfl ty3 ?_
              refine cmp false rfl rfl (by simp only [cmpV]; exact congrArg some (decide_eq_false (by omega))) ?_
              refine mv (.bool _) rfl ?_
              refine g_off rfl rfl rfl rfl ?_
              refine g_off rfl rfl rfl rfl ?_
              refine g_off rfl rfl rfl rfl ?_
              refine g_off rfl rfl rfl rfl ?_
              refine g_off rfl rfl rfl rfl ?_
              refine g_off rfl rfl rfl rfl ?_
              refine g_off rfl rfl rfl rfl ?_
              refine pkf (.bool _) rfl rfl ?_
              refine jt ?_
              refine c_false rfl ?_
              refine c_skip ?_
              refine e_then ?_
              refine c_seq ?_
              refine c_seq ?_
              refine c_reg ?_
              refine mv (.pointer _) rfl ?_
              refine nlc rfl ?_
              refine fad rfl Tryd.underlying66 rfl ty3.sz ?_
              refine ldp 2 2 _ rfl rfl rfl rfl ty3 ?_
              refine cmp true rfl rfl (by simp only [cmpV]; exact congrArg some (decide_eq_true (by omega))) ?_
              refine jt ?_
              refine c_true rfl ?_
              refine c_seq ?_
              refine c_dr [_, _, _, _] [] [(0, 0), (1, 0), (2, 0), (3, 0), (4, 0), (5, 1), (6, 0), (7, 0)] follows (by kernel_rfl) calm_body (keepS [1, 2, 3, 4] rfl) ?_
              refine bld [pt (0 : Int), pt ([] : Str), p1 (.slice none 0 0), pt (⟨0⟩ : F64), pt (⟨0⟩ : F64), pt (0 : UInt64), pt (zarr : (Arr UInt8 32))] [] _ Tryd.underlying30 (lay30 _ Tryd.underlying30) z30 rfl rfl rfl ?_
              refine mv (.pointer _) rfl ?_
              refine nlc rfl ?_
              refine fad rfl Tryd.underlying66 rfl ty3.sz ?_
              refine ldp 1 2 _ rfl rfl rfl rfl ty3 ?_
              refine stw 0 _ [pt (0 : Int), pt ([] : Str), p1 (.slice none 0 0), pt (⟨0⟩ : F64), pt (⟨0⟩ : F64), pt (0 : UInt64), pt (zarr : (Arr UInt8 32))] rfl rfl rfl rfl ty30 ⟨keepI [1, 2, 3, 4] rfl, ?_⟩
              refine asg (.int _ _) rfl ?_
              refine asg (.int _ _) rfl ?_
              refine jt ?_
              refine c_ret ?_
              exact j_end (own0 := []) (ro0 := [tPow10 3, tDb64 8]) (.inl rfl) rfl (hr3 Tryd.results13 (rvc (p := pa [pt (0 : Int), pt ([] : Str), p1 (.slice none 0 0), pt (⟨0⟩ : F64), pt (⟨0⟩ : F64), pt (0 : UInt64), pt (zarr : (Arr UInt8 32))]) 0 rfl rfl rfl ty30) (rvt (v := (.int _ _)) rfl) (rvt (v := (.int _ _)) rfl)) [] [0, 1, 2] [] [_, _, _] [] _ rfl rfl (by kernel_rfl) rfl impl_nil (.inr ⟨_, parse_react_f0 (by assumption) hnm9, rfl, rfl, rfl⟩)
          · replace h8 := of_decide_eq_false h8
            refine c_seq ?_
            refine c_reg ?_
            refine scmp (a := (word s 0)) (b := ([116, 105, 109, 101, 114] : Str)) _ rfl rfl Tryd.underlying9 rfl ?_
            refine asg (.bool _) rfl ?_
            refine jt ?_
            refine c_cond rfl (fun h10 => ?_) (fun h10 => ?_)
            · replace h10 := of_decide_eq_true h10
              refine c_seq ?_
              refine c_reg ?_
              refine fad rfl Tryd.underlying30 rfl ty3.sz ?_
              refine stp 2 0 _ (pt (5 : Int)) rfl rfl rfl rfl rfl rfl ty3 ⟨trivial, ?_⟩
              refine jt ?_
              refine c_reg ?_
              refine mv (.pointer _) rfl ?_
              refine cal (rdnum_ct b13 s ((word s 0).length) (by omega) (by omega) (31536000 : UInt64) (by decide)) [1] [0, 2] [_, _] rfl rfl rfl (by kernel_rfl) (impl_cons (impl_at 0 rfl) impl_nil) rfl ?_; rintro _ _ _ (⟨nn12, nq12, hnm12, rfl, rfl, rfl⟩ | ⟨nn12, nq12, na12, hnm12, rfl, rfl, rfl⟩)
              · have hnm12b := numR_next hnm12; refine ⟨trivial, ?_⟩
                refine fad rfl Tryd.underlying30 rfl ty23.sz ?_
                refine stp 1 5 _ (pt nn12) rfl rfl rfl rfl rfl rfl ty23 ⟨trivial, ?_⟩
                refine jn ?_
                refine e_in ?_
                refine e_then ?_
                refine c_seq ?_
                refine c_seq ?_
                refine c_reg ?_
                refine mv (.pointer _) rfl ?_
                refine nlc rfl ?_
                refine fad rfl Tryd.underlying66 rfl ty3.sz ?_
                refine ldp 2 2 _ rfl rfl rfl rfl ty3 ?_
                refine cmp true rfl rfl rfl ?_
                refine mv (.bool _) rfl ?_
                refine g_on rfl rfl rfl ?_
                refine mv (.pointer _) rfl ?_
                refine g_on rfl rfl rfl ?_
                refine nlc rfl ?_
                refine g_on rfl rfl rfl ?_
                refine fad rfl Tryd.underlying66 rfl ty3.sz ?_
                refine g_on rfl rfl rfl ?_
                refine ldp 2 1 _ rfl rfl rfl rfl ty3 ?_
                refine g_on rfl rfl rfl ?_
                refine mv (.string _) rfl ?_
                refine g_on rfl rfl rfl ?_
                refine lenT (s := s) rfl Tryd.underlying9 ?_
                refine g_on rfl rfl rfl ?_
                refine cmp _ rfl rfl rfl ?_
                refine pkt (.bool _) rfl rfl ?_
                refine jt ?_
                refine c_cond rfl (fun h11 => ?_) (fun h11 => ?_)
                · replace h11 := ndt h11
                  refine c_reg ?_
                  refine mv (.pointer _) rfl ?_
                  refine mv (.pointer _) rfl ?_
                  refine nlc rfl ?_
                  refine fad rfl Tryd.underlying66 rfl ty3.sz ?_
                  refine ldp 2 1 _ rfl rfl rfl rfl ty3 ?_
                  refine nlc rfl ?_
                  refine fad rfl Tryd.underlying66 rfl ty3.sz ?_
                  refine stp 2 2 _ (p1 (.int .i64 ((nq12 : Nat) : Int))) rfl rfl rfl rfl rfl rfl ty3 ⟨trivial, ?_⟩
                  refine jt ?_
                  refine c_seq ?_
                  refine c_seq ?_
                  refine c_reg ?_
                  refine mv (.pointer _) rfl ?_
                  refine nlc rfl ?_
                  refine fad rfl Tryd.underlying66 rfl ty3.sz ?_
                  refine ldp 2 2 _ rfl rfl rfl rfl ty3 ?_
                  refine cmp true rfl rfl (by simp only [cmpV]; exact congrArg some (decide_eq_true (by omega))) ?_
                  refine jt ?_
                  refine c_true rfl ?_
                  refine c_seq ?_
                  refine c_dr [_, _, _, _] [] [(0, 0), (1, 0), (2, 0), (3, 0), (4, 0), (5, 1), (6, 0), (7, 0)] follows (by kernel_rfl) calm_body (keepS [1, 2, 3, 4] rfl) ?_
                  refine bld [pt (0 : Int), pt ([] : Str), p1 (.slice none 0 0), pt (⟨0⟩ : F64), pt (⟨0⟩ : F64), pt (0 : UInt64), pt (zarr : (Arr UInt8 32))] [] _ Tryd.underlying30 (lay30 _ Tryd.underlying30) z30 rfl rfl rfl ?_
                  refine mv (.pointer _) rfl ?_
                  refine nlc rfl ?_
                  refine fad rfl Tryd.underlying66 rfl ty3.sz ?_
                  refine ldp 1 2 _ rfl rfl rfl rfl ty3 ?_
                  refine stw 0 _ [pt (0 : Int), pt ([] : Str), p1 (.slice none 0 0), pt (⟨0⟩ : F64), pt (⟨0⟩ : F64), pt (0 : UInt64), pt (zarr : (Arr UInt8 32))] rfl rfl rfl rfl ty30 ⟨keepI [1, 2, 3, 4] rfl, ?_⟩
                  refine asg (.int _ _) rfl ?_
                  refine asg (.int _ _) rfl ?_
                  refine jt ?_
                  refine c_ret ?_
                  exact j_end (own0 := []) (ro0 := [tPow10 3, tDb64 8]) (.inl rfl) rfl (hr3 Tryd.results13 (rvc (p := pa [pt (0 : Int), pt ([] : Str), p1 (.slice none 0 0), pt (⟨0⟩ : F64), pt (⟨0⟩ : F64), pt (0 : UInt64), pt (zarr : (Arr UInt8 32))]) 0 rfl rfl rfl ty30) (rvt (v := (.int _ _)) rfl) (rvt (v := (.int _ _)) rfl)) [] [0, 1, 2] [] [_, _, _] [] _ rfl rfl (by kernel_rfl) rfl impl_nil (.inr ⟨_, parse_timer_e (by assumption) hnm12 (by omega), rfl, rfl, rfl⟩)
                · replace h11 := ndf h11
                  refine c_skip ?_
                  refine e_then ?_
                  refine c_seq ?_
                  refine c_seq ?_
                  refine c_reg ?_
                  refine mv (.pointer _) rfl ?_
                  refine nlc rfl ?_
                  refine fad rfl Tryd.underlying66 rfl ty3.sz ?_
                  refine ldp 2 2 _ rfl rfl rfl rfl ty3 ?_
                  refine cmp false rfl rfl rfl ?_
                  refine jt ?_
                  refine c_false rfl ?_
                  refine c_skip ?_
                  refine e_then ?_
                  refine c_seq ?_
                  refine c_reg ?_
                  refine ldw 1 _ rfl rfl ty30 ?_
                  refine stw 0 _ [pt (5 : Int), pt ([] : Str), p1 (.slice none 0 0), pt (⟨0⟩ : F64), pt (⟨0⟩ : F64), pt nn12, pt (zarr : (Arr UInt8 32))] rfl rfl rfl rfl ty30 ⟨trivial, ?_⟩
                  refine asg (.int _ _) rfl ?_
                  refine asg (.int _ _) rfl ?_
                  refine jt ?_
                  refine c_ret ?_
                  refine e_addE ?_
                  exact j_end (own0 := []) (ro0 := [tPow10 3, tDb64 8]) (.inl rfl) rfl (hr3 Tryd.results13 (rvc (p := pa [pt (5 : Int), pt ([] : Str), p1 (.slice none 0 0), pt (⟨0⟩ : F64), pt (⟨0⟩ : F64), pt nn12, pt (zarr : (Arr UInt8 32))]) 0 rfl rfl rfl ty30) (rvt (v := (.int _ _)) rfl) (rvt (v := (.int _ _)) rfl)) [3] [0, 1, 2] [_] [_, _, _] [] _ rfl rfl (by kernel_rfl) rfl impl_nil (.inl ⟨(⟨(5 : Int), ([] : Str), (⟨0⟩ : F64), (⟨0⟩ : F64), nn12, (zarr : (Arr UInt8 32))⟩ : Con), [], Ow.nil, _, (by have h := parse_timer (by assumption) hnm12 (by omega); rw [UInt64.ofNat_toNat] at h; exact h), by simp, Ow.nil_ok, rfl, rfl, rfl⟩)
              · refine ⟨trivial, ?_⟩
                refine fad rfl Tryd.underlying30 rfl ty23.sz ?_
                refine stp 1 5 _ (pt nn12) rfl rfl rfl rfl rfl rfl ty23 ⟨trivial, ?_⟩
                refine jn ?_
                refine e_in ?_
                refine e_then ?_
                refine c_seq ?_
                refine c_seq ?_
                refine c_reg ?_
                refine mv (.pointer _) rfl ?_
                refine nlc rfl ?_
                refine fad rfl Tryd.underlying66 rfl ty3.sz ?_
                refine ldp 2 2 _ rfl rfl rfl rfl ty3 ?_
                refine cmp false rfl rfl (by simp only [cmpV]; exact congrArg some (decide_eq_false (by omega))) ?_
                refine mv (.bool _) rfl ?_
                refine g_off rfl rfl rfl rfl ?_
                refine g_off rfl rfl rfl rfl ?_
                refine g_off rfl rfl rfl rfl ?_
                refine g_off rfl rfl rfl rfl ?_
                refine g_off rfl rfl rfl rfl ?_
                refine g_off rfl rfl rfl rfl ?_
                refine g_off rfl rfl rfl rfl ?_
                refine pkf (.bool _) rfl rfl ?_
                refine jt ?_
                refine c_false rfl ?_
                refine c_skip ?_
                refine e_then ?_
                refine c_seq ?_
                refine c_seq ?_
                refine c_reg ?_
                refine mv (.pointer _) rfl ?_
                refine nlc rfl ?_
                refine fad rfl Tryd.underlying66 rfl ty3.sz ?_
                refine ldp 2 2 _ rfl rfl rfl rfl ty3 ?_
                refine cmp true rfl rfl (by simp only [cmpV]; exact congrArg some (decide_eq_true (by omega))) ?_
                refine jt ?_
                refine c_true rfl ?_
                refine c_seq ?_
                refine c_dr [_, _, _, _] [] [(0, 0), (1, 0), (2, 0), (3, 0), (4, 0), (5, 1), (6, 0), (7, 0)] follows (by kernel_rfl) calm_body (keepS [1, 2, 3, 4] rfl) ?_
                refine bld [pt (0 : Int), pt ([] : Str), p1 (.slice none 0 0), pt (⟨0⟩ : F64), pt (⟨0⟩ : F64), pt (0 : UInt64), pt (zarr : (Arr UInt8 32))] [] _ Tryd.underlying30 (lay30 _ Tryd.underlying30) z30 rfl rfl rfl ?_
                refine mv (.pointer _) rfl ?_
                refine nlc rfl ?_
                refine fad rfl Tryd.underlying66 rfl ty3.sz ?_
                refine ldp 1 2 _ rfl rfl rfl rfl ty3 ?_
                refine stw 0 _ [pt (0 : Int), pt ([] : Str), p1 (.slice none 0 0), pt (⟨0⟩ : F64), pt (⟨0⟩ : F64), pt (0 : UInt64), pt (zarr : (Arr UInt8 32))] rfl rfl rfl rfl ty30 ⟨keepI [1, 2, 3, 4] rfl, ?_⟩
                refine asg (.int _ _) rfl ?_
                refine asg (.int _ _) rfl ?_
                refine jt ?_
                refine c_ret ?_
                exact j_end (own0 := []) (ro0 := [tPow10 3, tDb64 8]) (.inl rfl) rfl (hr3 Tryd.results13 (rvc (p := pa [pt (0 : Int), pt ([] : Str), p1 (.slice none 0 0), pt (⟨0⟩ : F64), pt (⟨0⟩ : F64), pt (0 : UInt64), pt (zarr : (Arr UInt8 32))]) 0 rfl rfl rfl ty30) (rvt (v := (.int _ _)) rfl) (rvt (v := (.int _ _)) rfl)) [] [0, 1, 2] [] [_, _, _] [] _ rfl rfl (by kernel_rfl) rfl impl_nil (.inr ⟨_, parse_timer_f0 (by assumption) hnm12, rfl, rfl, rfl⟩)
            · replace h10 := of_decide_eq_false h10
              refine c_seq ?_
              refine c_reg ?_
              refine scmp (a := (word s 0)) (b := ([102, 105, 108, 101] : Str)) _ rfl rfl Tryd.underlying9 rfl ?_
              refine asg (.bool _) rfl ?_
              refine jt ?_
              refine c_cond rfl (fun h12 => ?_) (fun h12 => ?_)
              · replace h12 := of_decide_eq_true h12
                refine c_seq ?_
                refine c_reg ?_
                refine fad rfl Tryd.underlying30 rfl ty3.sz ?_
                refine stp 2 0 _ (pt (6 : Int)) rfl rfl rfl rfl rfl rfl ty3 ⟨trivial, ?_⟩
                refine jt ?_
                refine c_seq ?_
                refine c_reg ?_
                refine mv (.pointer _) rfl ?_
                refine cal (rdtext_ct b13 s ((word s 0).length) (by omega) (by omega) 1 255 (by omega) (by omega)) [1] [0, 2] [_, _] rfl rfl rfl (by kernel_rfl) (impl_cons (impl_at 1 rfl) impl_nil) rfl ?_; rintro _ _ _ (⟨tt13, tq13, htx13, rfl, rfl, rfl⟩ | ⟨tt13, tq13, ta13, htx13, rfl, rfl, rfl⟩)
                · have htx13b := textR_next htx13; refine ⟨trivial, ?_⟩
                  refine fad rfl Tryd.underlying30 rfl ty9.sz ?_
                  refine stp 1 1 _ (pt tt13) rfl rfl rfl rfl rfl rfl ty9 ⟨trivial, ?_⟩
                  refine jt ?_
                  refine c_seq ?_
                  refine c_reg ?_
                  refine mv (.pointer _) rfl ?_
                  refine cal (rdnum_ct b13 s tq13 (by omega) (by omega) (1099511627776 : UInt64) (by decide)) [2] [0, 1] [_, _] rfl rfl rfl (by kernel_rfl) (impl_cons (impl_at 0 rfl) impl_nil) rfl ?_; rintro _ _ _ (⟨nn14, nq14, hnm14, rfl, rfl, rfl⟩ | ⟨nn14, nq14, na14, hnm14, rfl, rfl, rfl⟩)
                  · have hnm14b := numR_next hnm14; refine ⟨trivial, ?_⟩
                    refine fad rfl Tryd.underlying30 rfl ty23.sz ?_
                    refine stp 1 5 _ (pt nn14) rfl rfl rfl rfl rfl rfl ty23 ⟨trivial, ?_⟩
                    refine jt ?_
                    refine c_reg ?_
                    refine mv (.pointer _) rfl ?_
                    refine cal (rdkey_ct b13 s nq14 (by omega) (by omega)) [2] [0, 1] [_, _] rfl rfl rfl (by kernel_rfl) impl_nil rfl ?_; rintro _ _ _ (⟨_, kq15, ⟨kw15, hby15, rfl⟩, rfl, rfl, rfl⟩ | ⟨kk15, kq15, ka15, hby15, rfl, rfl, rfl⟩)
                    · have hby15b := hexR_next hby15; refine ⟨trivial, ?_⟩
                      refine fad rfl Tryd.underlying30 rfl ty25.sz ?_
                      refine stp 1 6 _ (pt (mkKey (hexb kw15 32))) rfl rfl rfl rfl rfl rfl ty25 ⟨trivial, ?_⟩
                      refine jn ?_
                      refine e_in ?_
                      refine e_then ?_
                      refine c_seq ?_
                      refine c_seq ?_
                      refine c_reg ?_
                      refine mv (.pointer _) rfl ?_
                      refine nlc rfl ?_
                      refine fad rfl Tryd.underlying66 rfl ty3.sz ?_
                      refine ldp 2 2 _ rfl rfl rfl rfl ty3 ?_
                      refine cmp true rfl rfl rfl ?_
                      refine mv (.bool _) rfl ?_
                      refine g_on rfl rfl rfl ?_
                      refine mv (.pointer _) rfl ?_
                      refine g_on rfl rfl rfl ?_
                      refine nlc rfl ?_
                      refine g_on rfl rfl rfl ?_
                      refine fad rfl Tryd.underlying66 rfl ty3.sz ?_
                      refine g_on rfl rfl rfl ?_
                      refine ldp 2 1 _ rfl rfl rfl rfl ty3 ?_
                      refine g_on rfl rfl rfl ?_
                      refine mv (.string _) rfl ?_
                      refine g_on rfl rfl rfl ?_
                      refine lenT (s := s) rfl Tryd.underlying9 ?_
                      refine g_on rfl rfl rfl ?_
                      refine cmp _ rfl rfl rfl ?_
                      refine pkt (.bool _) rfl rfl ?_
                      refine jt ?_
                      refine c_cond rfl (fun h13 => ?_) (fun h13 => ?_)
                      · replace h13 := ndt h13
                        refine c_reg ?_
                        refine mv (.pointer _) rfl ?_
                        refine mv (.pointer _) rfl ?_
                        refine nlc rfl ?_
                        refine fad rfl Tryd.underlying66 rfl ty3.sz ?_
                        refine ldp 2 1 _ rfl rfl rfl rfl ty3 ?_
                        refine nlc rfl ?_
                        refine fad rfl Tryd.underlying66 rfl ty3.sz ?_
                        refine stp 2 2 _ (p1 (.int .i64 ((kq15 : Nat) : Int))) rfl rfl rfl rfl rfl rfl ty3 ⟨trivial, ?_⟩
                        refine jt ?_
                        refine c_seq ?_
                        refine c_seq ?_
                        refine c_reg ?_
                        refine mv (.pointer _) rfl ?_
                        refine nlc rfl ?_
                        refine fad rfl Tryd.underlying66 rfl ty3.sz ?_
                        refine ldp 2 2 _ rfl rfl rfl rfl ty3 ?_
                        refine cmp true rfl rfl (by simp only [cmpV]; exact congrArg some (decide_eq_true (by omega))) ?_
                        refine jt ?_
                        refine c_true rfl ?_
                        refine c_seq ?_
                        refine c_dr [_, _, _, _] [] [(0, 0), (1, 0), (2, 0), (3, 0), (4, 0), (5, 1), (6, 0), (7, 0)] follows (by kernel_rfl) calm_body (keepS [1, 2, 3, 4] rfl) ?_
                        refine bld [pt (0 : Int), pt ([] : Str), p1 (.slice none 0 0), pt (⟨0⟩ : F64), pt (⟨0⟩ : F64), pt (0 : UInt64), pt (zarr : (Arr UInt8 32))] [] _ Tryd.underlying30 (lay30 _ Tryd.underlying30) z30 rfl rfl rfl ?_
                        refine mv (.pointer _) rfl ?_
                        refine nlc rfl ?_
                        refine fad rfl Tryd.underlying66 rfl ty3.sz ?_
                        refine ldp 1 2 _ rfl rfl rfl rfl ty3 ?_
                        refine stw 0 _ [pt (0 : Int), pt ([] : Str), p1 (.slice none 0 0), pt (⟨0⟩ : F64), pt (⟨0⟩ : F64), pt (0 : UInt64), pt (zarr : (Arr UInt8 32))] rfl rfl rfl rfl ty30 ⟨keepI [1, 2, 3, 4] rfl, ?_⟩
                        refine asg (.int _ _) rfl ?_
                        refine asg (.int _ _) rfl ?_
                        refine jt ?_
                        refine c_ret ?_
                        exact j_end (own0 := []) (ro0 := [tPow10 3, tDb64 8]) (.inl rfl) rfl (hr3 Tryd.results13 (rvc (p := pa [pt (0 : Int), pt ([] : Str), p1 (.slice none 0 0), pt (⟨0⟩ : F64), pt (⟨0⟩ : F64), pt (0 : UInt64), pt (zarr : (Arr UInt8 32))]) 0 rfl rfl rfl ty30) (rvt (v := (.int _ _)) rfl) (rvt (v := (.int _ _)) rfl)) [] [0, 1, 2] [] [_, _, _] [] _ rfl rfl (by kernel_rfl) rfl impl_nil (.inr ⟨_, parse_file_e (by assumption) htx13 hnm14 hby15 (by omega), rfl, rfl, rfl⟩)
                      · replace h13 := ndf h13
                        refine c_skip ?_
                        refine e_then ?_
                        refine c_seq ?_
                        refine c_seq ?_
                        refine c_reg ?_
                        refine mv (.pointer _) rfl ?_
                        refine nlc rfl ?_
                        refine fad rfl Tryd.underlying66 rfl ty3.sz ?_
                        refine ldp 2 2 _ rfl rfl rfl rfl ty3 ?_
                        refine cmp false rfl rfl rfl ?_
                        refine jt ?_
                        refine c_false rfl ?_
                        refine c_skip ?_
                        refine e_then ?_
                        refine c_seq ?_
                        refine c_reg ?_
                        refine ldw 1 _ rfl rfl ty30 ?_
                        refine stw 0 _ [pt (6 : Int), pt tt13, p1 (.slice none 0 0), pt (⟨0⟩ : F64), pt (⟨0⟩ : F64), pt nn14, pt (mkKey (hexb kw15 32))] rfl rfl rfl rfl ty30 ⟨trivial, ?_⟩
                        refine asg (.int _ _) rfl ?_
                        refine asg (.int _ _) rfl ?_
                        refine jt ?_
                        refine c_ret ?_
                        refine e_addE ?_
                        exact j_end (own0 := []) (ro0 := [tPow10 3, tDb64 8]) (.inl rfl) rfl (hr3 Tryd.results13 (rvc (p := pa [pt (6 : Int), pt tt13, p1 (.slice none 0 0), pt (⟨0⟩ : F64), pt (⟨0⟩ : F64), pt nn14, pt (mkKey (hexb kw15 32))]) 0 rfl rfl rfl ty30) (rvt (v := (.int _ _)) rfl) (rvt (v := (.int _ _)) rfl)) [3] [0, 1, 2] [_] [_, _, _] [] _ rfl rfl (by kernel_rfl) rfl impl_nil (.inl ⟨(⟨(6 : Int), tt13, (⟨0⟩ : F64), (⟨0⟩ : F64), nn14, (mkKey (hexb kw15 32))⟩ : Con), [], Ow.nil, _, (by have h := parse_file (by assumption) htx13 hnm14 hby15 (by omega); rw [UInt64.ofNat_toNat] at h; exact h), by simp, Ow.nil_ok, rfl, rfl, rfl⟩)
                    · refine ⟨trivial, ?_⟩
                      refine fad rfl Tryd.underlying30 rfl ty25.sz ?_
                      refine stp 1 6 _ (pt kk15) rfl rfl rfl rfl rfl rfl ty25 ⟨trivial, ?_⟩
                      refine jn ?_
                      refine e_in ?_
                      refine e_then ?_
                      refine c_seq ?_
                      refine c_seq ?_
                      refine c_reg ?_
                      refine mv (.pointer _) rfl ?_
                      refine nlc rfl ?_
                      refine fad rfl Tryd.underlying66 rfl ty3.sz ?_
                      refine ldp 2 2 _ rfl rfl rfl rfl ty3 ?_
                      refine cmp false rfl rfl (by simp only [cmpV]; exact congrArg some (decide_eq_false (by omega))) ?_
                      refine mv (.bool _) rfl ?_
                      refine g_off rfl rfl rfl rfl ?_
                      refine g_off rfl rfl rfl rfl ?_
                      refine g_off rfl rfl rfl rfl ?_
                      refine g_off rfl rfl rfl rfl ?_
                      refine g_off rfl rfl rfl rfl ?_
                      refine g_off rfl rfl rfl rfl ?_
                      refine g_off rfl rfl rfl rfl ?_
                      refine pkf (.bool _) rfl rfl ?_
                      refine jt ?_
                      refine c_false rfl ?_
                      refine c_skip ?_
                      refine e_then ?_
                      refine c_seq ?_
                      refine c_seq ?_
                      refine c_reg ?_
                      refine mv (.pointer _) rfl ?_
                      refine nlc rfl ?_
                      refine fad rfl Tryd.underlying66 rfl ty3.sz ?_
                      refine ldp 2 2 _ rfl rfl rfl rfl ty3 ?_
                      refine cmp true rfl rfl (by simp only [cmpV]; exact congrArg some (decide_eq_true (by omega))) ?_
                      refine jt ?_
                      refine c_true rfl ?_
                      refine c_seq ?_
                      refine c_dr [_, _, _, _] [] [(0, 0), (1, 0), (2, 0), (3, 0), (4, 0), (5, 1), (6, 0), (7, 0)] follows (by kernel_rfl) calm_body (keepS [1, 2, 3, 4] rfl) ?_
                      refine bld [pt (0 : Int), pt ([] : Str), p1 (.slice none 0 0), pt (⟨0⟩ : F64), pt (⟨0⟩ : F64), pt (0 : UInt64), pt (zarr : (Arr UInt8 32))] [] _ Tryd.underlying30 (lay30 _ Tryd.underlying30) z30 rfl rfl rfl ?_
                      refine mv (.pointer _) rfl ?_
                      refine nlc rfl ?_
                      refine fad rfl Tryd.underlying66 rfl ty3.sz ?_
                      refine ldp 1 2 _ rfl rfl rfl rfl ty3 ?_
                      refine stw 0 _ [pt (0 : Int), pt ([] : Str), p1 (.slice none 0 0), pt (⟨0⟩ : F64), pt (⟨0⟩ : F64), pt (0 : UInt64), pt (zarr : (Arr UInt8 32))] rfl rfl rfl rfl ty30 ⟨keepI [1, 2, 3, 4] rfl, ?_⟩
                      refine asg (.int _ _) rfl ?_
                      refine asg (.int _ _) rfl ?_
                      refine jt ?_
                      refine c_ret ?_
                      exact j_end (own0 := []) (ro0 := [tPow10 3, tDb64 8]) (.inl rfl) rfl (hr3 Tryd.results13 (rvc (p := pa [pt (0 : Int), pt ([] : Str), p1 (.slice none 0 0), pt (⟨0⟩ : F64), pt (⟨0⟩ : F64), pt (0 : UInt64), pt (zarr : (Arr UInt8 32))]) 0 rfl rfl rfl ty30) (rvt (v := (.int _ _)) rfl) (rvt (v := (.int _ _)) rfl)) [] [0, 1, 2] [] [_, _, _] [] _ rfl rfl (by kernel_rfl) rfl impl_nil (.inr ⟨_, parse_file_f2 (by assumption) htx13 hnm14 hby15, rfl, rfl, rfl⟩)
                  · refine ⟨trivial, ?_⟩
                    refine fad rfl Tryd.underlying30 rfl ty23.sz ?_
                    refine stp 1 5 _ (pt nn14) rfl rfl rfl rfl rfl rfl ty23 ⟨trivial, ?_⟩
                    refine jt ?_
                    refine c_reg ?_
                    refine mv (.pointer _) rfl ?_
                    refine cal (rdkey_bad b13 s na14 nq14) [2] [0, 1] [_, _] rfl rfl rfl (by kernel_rfl) impl_nil rfl ?_; rintro _ _ _ ⟨rfl, rfl, rfl⟩; refine ⟨trivial, ?_⟩
                    refine fad rfl Tryd.underlying30 rfl ty25.sz ?_
                    refine stp 1 6 _ (pt (zarr : Key)) rfl rfl rfl rfl rfl rfl ty25 ⟨trivial, ?_⟩
                    refine jn ?_
                    refine e_in ?_
                    refine e_then ?_
                    refine c_seq ?_
                    refine c_seq ?_
                    refine c_reg ?_
                    refine mv (.pointer _) rfl ?_
                    refine nlc rfl ?_
                    refine fad rfl Tryd.underlying66 rfl ty3.sz ?_
                    refine ldp 2 2 _ rfl rfl rfl rfl ty3 ?_
                    refine cmp false rfl rfl (by simp only [cmpV]; exact congrArg some (decide_eq_false (by omega))) ?_
                    refine mv (.bool _) rfl ?_
                    refine g_off rfl rfl rfl rfl ?_
                    refine g_off rfl rfl rfl rfl ?_
                    refine g_off rfl rfl rfl rfl ?_
                    refine g_off rfl rfl rfl rfl ?_
                    refine g_off rfl rfl rfl rfl ?_
                    refine g_off rfl rfl rfl rfl ?_
                    refine g_off rfl rfl rfl rfl ?_
                    refine pkf (.bool _) rfl rfl ?_
                    refine jt ?_
                    refine c_false rfl ?_
                    refine c_skip ?_
                    refine e_then ?_
                    refine c_seq ?_
                    refine c_seq ?_
                    refine c_reg ?_
                    refine mv (.pointer _) rfl ?_
                    refine nlc rfl ?_
                    refine fad rfl Tryd.underlying66 rfl ty3.sz ?_
                    refine ldp 2 2 _ rfl rfl rfl rfl ty3 ?_
                    refine cmp true rfl rfl (by simp only [cmpV]; exact congrArg some (decide_eq_true (by omega))) ?_
                    refine jt ?_
                    refine c_true rfl ?_
                    refine c_seq ?_
                    refine c_dr [_, _, _, _] [] [(0, 0), (1, 0), (2, 0), (3, 0), (4, 0), (5, 1), (6, 0), (7, 0)] follows (by kernel_rfl) calm_body (keepS [1, 2, 3, 4] rfl) ?_
                    refine bld [pt (0 : Int), pt ([] : Str), p1 (.slice none 0 0), pt (⟨0⟩ : F64), pt (⟨0⟩ : F64), pt (0 : UInt64), pt (zarr : (Arr UInt8 32))] [] _ Tryd.underlying30 (lay30 _ Tryd.underlying30) z30 rfl rfl rfl ?_
                    refine mv (.pointer _) rfl ?_
                    refine nlc rfl ?_
                    refine fad rfl Tryd.underlying66 rfl ty3.sz ?_
                    refine ldp 1 2 _ rfl rfl rfl rfl ty3 ?_
                    refine stw 0 _ [pt (0 : Int), pt ([] : Str), p1 (.slice none 0 0), pt (⟨0⟩ : F64), pt (⟨0⟩ : F64), pt (0 : UInt64), pt (zarr : (Arr UInt8 32))] rfl rfl rfl rfl ty30 ⟨keepI [1, 2, 3, 4] rfl, ?_⟩
                    refine asg (.int _ _) rfl ?_
                    refine asg (.int _ _) rfl ?_
                    refine jt ?_
                    refine c_ret ?_
                    exact j_end (own0 := []) (ro0 := [tPow10 3, tDb64 8]) (.inl rfl) rfl (hr3 Tryd.results13 (rvc (p := pa [pt (0 : Int), pt ([] : Str), p1 (.slice none 0 0), pt (⟨0⟩ : F64), pt (⟨0⟩ : F64), pt (0 : UInt64), pt (zarr : (Arr UInt8 32))]) 0 rfl rfl rfl ty30) (rvt (v := (.int _ _)) rfl) (rvt (v := (.int _ _)) rfl)) [] [0, 1, 2] [] [_, _, _] [] _ rfl rfl (by kernel_rfl) rfl impl_nil (.inr ⟨_, parse_file_f1 (by assumption) htx13 hnm14, rfl, rfl, rfl⟩)
                · refine ⟨trivial, ?_⟩
                  refine fad rfl Tryd.underlying30 rfl ty9.sz ?_
                  refine stp 1 1 _ (pt tt13) rfl rfl rfl rfl rfl rfl ty9 ⟨trivial, ?_⟩
                  refine jt ?_
                  refine c_seq ?_
                  refine c_reg ?_
                  refine mv (.pointer _) rfl ?_
                  refine cal (rdnum_bad b13 s ta13 tq13 (1099511627776 : UInt64)) [2] [0, 1] [_, _] rfl rfl rfl (by kernel_rfl) impl_nil rfl ?_; rintro _ _ _ ⟨rfl, rfl, rfl⟩; refine ⟨trivial, ?_⟩
                  refine fad rfl Tryd.underlying30 rfl ty23.sz ?_
                  refine stp 1 5 _ (pt (0 : UInt64)) rfl rfl rfl rfl rfl rfl ty23 ⟨trivial, ?_⟩
                  refine jt ?_
                  refine c_reg ?_
                  refine mv (.pointer _) rfl ?_
                  refine cal (rdkey_bad b13 s ta13 tq13) [2] [0, 1] [_, _] rfl rfl rfl (by kernel_rfl) impl_nil rfl ?_; rintro _ _ _ ⟨rfl, rfl, rfl⟩; refine ⟨trivial, ?_⟩
                  refine fad rfl Tryd.underlying30 rfl ty25.sz ?_
                  refine stp 1 6 _ (pt (zarr : Key)) rfl rfl rfl rfl rfl rfl ty25 ⟨trivial, ?_⟩
                  refine jn ?_
                  refine e_in ?_
                  refine e_then ?_
                  refine c_seq ?_
                  refine c_seq ?_
                  refine c_reg ?_
                  refine mv (.pointer _) rfl ?_
                  refine nlc rfl ?_
                  refine fad rfl Tryd.underlying66 rfl ty3.sz ?_
                  refine ldp 2 2 _ rfl rfl rfl rfl ty3 ?_
                  refine cmp false rfl rfl (by simp only [cmpV]; exact congrArg some (decide_eq_false (by omega))) ?_
                  refine mv (.bool _) rfl ?_
                  refine g_off rfl rfl rfl rfl ?_
                  refine g_off rfl rfl rfl rfl ?_
                  refine g_off rfl rfl rfl rfl ?_
                  refine g_off rfl rfl rfl rfl ?_
                  refine g_off rfl rfl rfl rfl ?_
                  refine g_off rfl rfl rfl rfl ?_
                  refine g_off rfl rfl rfl rfl ?_
                  refine pkf (.bool _) rfl rfl ?_
                  refine jt ?_
                  refine c_false rfl ?_
                  refine c_skip ?_
                  refine e_then ?_
                  refine c_seq ?_
                  refine c_seq ?_
                  refine c_reg ?_
                  refine mv (.pointer _) rfl ?_
                  refine nlc rfl ?_
                  refine fad rfl Tryd.underlying66 rfl ty3.sz ?_
                  refine ldp 2 2 _ rfl rfl rfl rfl ty3 ?_
                  refine cmp true rfl rfl (by simp only [cmpV]; exact congrArg some (decide_eq_true (by omega))) ?_
                  refine jt ?_
                  refine c_true rfl ?_
                  refine c_seq ?_
                  refine c_dr [_, _, _, _] [] [(0, 0), (1, 0), (2, 0), (3, 0), (4, 0), (5, 1), (6, 0), (7, 0)] follows (by kernel_rfl) calm_body (keepS [1, 2, 3, 4] rfl) ?_
                  refine bld [pt (0 : Int), pt ([] : Str), p1 (.slice none 0 0), pt (⟨0⟩ : F64), pt (⟨0⟩ : F64), pt (0 : UInt64), pt (zarr : (Arr UInt8 32))] [] _ Tryd.underlying30 (lay30 _ Tryd.underlying30) z30 rfl rfl rfl ?_
                  refine mv (.pointer _) rfl ?_
                  refine nlc rfl ?_
                  refine fad rfl Tryd.underlying66 rfl ty3.sz ?_
                  refine ldp 1 2 _ rfl rfl rfl rfl ty3 ?_
                  refine stw 0 _ [pt (0 : Int), pt ([] : Str), p1 (.slice none 0 0), pt (⟨0⟩ : F64), pt (⟨0⟩ : F64), pt (0 : UInt64), pt (zarr : (Arr UInt8 32))] rfl rfl rfl rfl ty30 ⟨keepI [1, 2, 3, 4] rfl, ?_⟩
                  refine asg (.int _ _) rfl ?_
                  refine asg (.int _ _) rfl ?_
                  refine jt ?_
                  refine c_ret ?_
                  exact j_end (own0 := []) (ro0 := [tPow10 3, tDb64 8]) (.inl rfl) rfl (hr3 Tryd.results13 (rvc (p := pa [pt (0 : Int), pt ([] : Str), p1 (.slice none 0 0), pt (⟨0⟩ : F64), pt (⟨0⟩ : F64), pt (0 : UInt64), pt (zarr : (Arr UInt8 32))]) 0 rfl rfl rfl ty30) (rvt (v := (.int _ _)) rfl) (rvt (v := (.int _ _)) rfl)) [] [0, 1, 2] [] [_, _, _] [] _ rfl rfl (by kernel_rfl) rfl impl_nil (.inr ⟨_, parse_file_f0 (by assumption) htx13, rfl, rfl, rfl⟩)
              · replace h12 := of_decide_eq_false h12
                refine c_reg ?_
                refine mv (.pointer _) rfl ?_
                refine nlc rfl ?_
                refine fad rfl Tryd.underlying66 rfl ty3.sz ?_
                refine stp 1 2 _ (pt (0 : Int)) rfl rfl rfl rfl rfl rfl ty3 ⟨trivial, ?_⟩
                refine jn ?_
                refine e_in ?_
                refine e_then ?_
                refine c_seq ?_
                refine c_seq ?_
                refine c_reg ?_
                refine mv (.pointer _) rfl ?_
                refine nlc rfl ?_
                refine fad rfl Tryd.underlying66 rfl ty3.sz ?_
                refine ldp 1 2 _ rfl rfl rfl rfl ty3 ?_
                refine cmp false rfl rfl rfl ?_
                refine mv (.bool _) rfl ?_
                refine g_off rfl rfl rfl rfl ?_
                refine g_off rfl rfl rfl rfl ?_
                refine g_off rfl rfl rfl rfl ?_
                refine g_off rfl rfl rfl rfl ?_
                refine g_off rfl rfl rfl rfl ?_
                refine g_off rfl rfl rfl rfl ?_
                refine g_off rfl rfl rfl rfl ?_
                refine pkf (.bool _) rfl rfl ?_
                refine jt ?_
                refine c_false rfl ?_
                refine c_skip ?_
                refine e_then ?_
                refine c_seq ?_
                refine c_seq ?_
                refine c_reg ?_
                refine mv (.pointer _) rfl ?_
                refine nlc rfl ?_
                refine fad rfl Tryd.underlying66 rfl ty3.sz ?_
                refine ldp 1 2 _ rfl rfl rfl rfl ty3 ?_
                refine cmp true rfl rfl rfl ?_
                refine jt ?_
                refine c_true rfl ?_
                refine c_seq ?_
                refine c_dr [_, _, _, _] [] [(0, 0), (1, 0), (2, 0), (3, 0), (4, 0), (5, 1), (6, 0), (7, 0)] follows (by kernel_rfl) calm_body (keepS [1, 2, 3, 4] rfl) ?_
                refine bld [pt (0 : Int), pt ([] : Str), p1 (.slice none 0 0), pt (⟨0⟩ : F64), pt (⟨0⟩ : F64), pt (0 : UInt64), pt (zarr : (Arr UInt8 32))] [] _ Tryd.underlying30 (lay30 _ Tryd.underlying30) z30 rfl rfl rfl ?_
                refine mv (.pointer _) rfl ?_
                refine nlc rfl ?_
                refine fad rfl Tryd.underlying66 rfl ty3.sz ?_
                refine ldp 0 2 _ rfl rfl rfl rfl ty3 ?_
                refine stw 0 _ [pt (0 : Int), pt ([] : Str), p1 (.slice none 0 0), pt (⟨0⟩ : F64), pt (⟨0⟩ : F64), pt (0 : UInt64), pt (zarr : (Arr UInt8 32))] rfl rfl rfl rfl ty30 ⟨keepI [1, 2, 3, 4] rfl, ?_⟩
                refine asg (.int _ _) rfl ?_
                refine asg (.int _ _) rfl ?_
                refine jt ?_
                refine c_ret ?_
                exact j_end (own0 := []) (ro0 := [tPow10 3, tDb64 8]) (.inl rfl) rfl (hr3 Tryd.results13 (rvc (p := pa [pt (0 : Int), pt ([] : Str), p1 (.slice none 0 0), pt (⟨0⟩ : F64), pt (⟨0⟩ : F64), pt (0 : UInt64), pt (zarr : (Arr UInt8 32))]) 0 rfl rfl rfl ty30) (rvt (v := (.int _ _)) rfl) (rvt (v := (.int _ _)) rfl)) [] [0, 1, 2] [] [_, _, _] [] _ rfl rfl (by kernel_rfl) rfl impl_nil (.inr ⟨0, parse_none (by first | assumption | contradiction) (by first | assumption | contradiction) (by first | assumption | contradiction) (by first | assumption | contradiction) (by first | assumption | contradiction) (by first | assumption | contradiction) (by first | assumption | contradiction), rfl, rfl, rfl⟩)
    · replace h3 := of_decide_eq_false h3
      refine c_reg ?_
      refine scmp (a := (word s 0)) (b := ([114, 101, 97, 100] : Str)) _ rfl rfl Tryd.underlying9 rfl ?_
      refine asg (.bool _) rfl ?_
      refine jt ?_
      refine c_cond rfl (fun h14 => ?_) (fun h14 => ?_)
      · replace h14 := of_decide_eq_true h14
        refine c_seq ?_
        refine c_reg ?_
        refine fad rfl Tryd.underlying30 rfl ty3.sz ?_
        refine stp 2 0 _ (pt (2 : Int)) rfl rfl rfl rfl rfl rfl ty3 ⟨trivial, ?_⟩
        refine fad rfl Tryd.underlying30 rfl ty23.sz ?_
        refine stp 2 5 _ (pt (1 : UInt64)) rfl rfl rfl rfl rfl rfl ty23 ⟨trivial, ?_⟩
        refine jt ?_
        refine c_seq ?_
        refine c_seq ?_
        refine c_reg ?_
        refine mv (.string _) rfl ?_
        refine mv (.int _ _) rfl ?_
        refine cutT (s := s) 0 ((word s 0).length) rfl Tryd.underlying9 rfl ⟨_, rfl⟩ (by first | omega | (simp; done) | (simp; omega)) (by first | omega | (simp; done) | (simp; omega)) (List.take ((word s 0).length) s) (cut_lo _ _) ?_
        refine j_re 34 (strV (word s 0)) (congrArg strV (take_word0 s)) ?_
        refine scmp (a := (word s 0)) (b := ([114, 101, 97, 100] : Str)) _ rfl rfl Tryd.underlying9 rfl ?_
        refine j_re 35 (.bool true) (congrArg Value.bool (decide_eq_true (show word s 0 = [114, 101, 97, 100] by assumption))) ?_
        refine jt ?_
        refine c_true rfl ?_
        refine c_reg ?_
        refine fad rfl Tryd.underlying30 rfl ty23.sz ?_
        refine stp 2 5 _ (pt (2 : UInt64)) rfl rfl rfl rfl rfl rfl ty23 ⟨trivial, ?_⟩
        refine jt ?_
        refine c_reg ?_
        refine mv (.pointer _) rfl ?_
        refine cal (rdmarks_ct b13 s ((word s 0).length) (by omega) (by omega)) [1] [0, 2] [_, _] rfl rfl rfl (by kernel_rfl) (impl_cons (impl_at 0 rfl) impl_nil) rfl ?_; rintro _ _ _ (⟨mo19, mm19, mq19, hmk19, hmk19b, hmk19o, rfl, rfl, rfl⟩ | ⟨mo19, mm19, mq19, ma19, hmk19, hmk19b, hmk19o, rfl, rfl, rfl⟩)
        · refine ⟨trivial, ?_⟩
          refine fad rfl Tryd.underlying30 rfl ty22.sz ?_
          refine stp 1 2 _ (p1 (.slice mo19.adr mm19.length mo19.cap)) rfl rfl rfl rfl rfl rfl ty22 ⟨trivial, ?_⟩
          refine jn ?_
          refine e_in ?_
          refine e_then ?_
          refine c_seq ?_
          refine c_seq ?_
          refine c_reg ?_
          refine mv (.pointer _) rfl ?_
          refine nlc rfl ?_
          refine fad rfl Tryd.underlying66 rfl ty3.sz ?_
          refine ldp 2 2 _ rfl rfl rfl rfl ty3 ?_
          refine cmp true rfl rfl rfl ?_
          refine mv (.bool _) rfl ?_
          refine g_on rfl rfl rfl ?_
          refine mv (.pointer _) rfl ?_
          refine g_on rfl rfl rfl ?_
          refine nlc rfl ?_
          refine g_on rfl rfl rfl ?_
          refine fad rfl Tryd.underlying66 rfl ty3.sz ?_
          refine g_on rfl rfl rfl ?_
          refine ldp 2 1 _ rfl rfl rfl rfl ty3 ?_
          refine g_on rfl rfl rfl ?_
          refine mv (.string _) rfl ?_
          refine g_on rfl rfl rfl ?_
          refine lenT (s := s) rfl Tryd.underlying9 ?_
          refine g_on rfl rfl rfl ?_
          refine cmp _ rfl rfl rfl ?_
          refine pkt (.bool _) rfl rfl ?_
          refine jt ?_
          refine c_cond rfl (fun h15 => ?_) (fun h15 => ?_)
          · replace h15 := ndt h15
            refine c_reg ?_
            refine mv (.pointer _) rfl ?_
            refine mv (.pointer _) rfl ?_
            refine nlc rfl ?_
            refine fad rfl Tryd.underlying66 rfl ty3.sz ?_
            refine ldp 2 1 _ rfl rfl rfl rfl ty3 ?_
            refine nlc rfl ?_
            refine fad rfl Tryd.underlying66 rfl ty3.sz ?_
            refine stp 2 2 _ (p1 (.int .i64 ((mq19 : Nat) : Int))) rfl rfl rfl rfl rfl rfl ty3 ⟨trivial, ?_⟩
            refine jt ?_
            refine c_seq ?_
            refine c_seq ?_
            refine c_reg ?_
            refine mv (.pointer _) rfl ?_
            refine nlc rfl ?_
            refine fad rfl Tryd.underlying66 rfl ty3.sz ?_
            refine ldp 2 2 _ rfl rfl rfl rfl ty3 ?_
            refine cmp true rfl rfl (by simp only [cmpV]; exact congrArg some (decide_eq_true (by omega))) ?_
            refine jt ?_
            refine c_true rfl ?_
            refine c_seq ?_
            refine c_dr [_, _, _, _, _] [] [(0, 0), (1, 0), (2, 0), (3, 0), (4, 0), (5, 1), (6, 0), (7, 0)] follows (by kernel_rfl) calm_body (keepS [1, 2, 3, 4, 5] rfl) ?_
            refine bld [pt (0 : Int), pt ([] : Str), p1 (.slice none 0 0), pt (⟨0⟩ : F64), pt (⟨0⟩ : F64), pt (0 : UInt64), pt (zarr : (Arr UInt8 32))] [] _ Tryd.underlying30 (lay30 _ Tryd.underlying30) z30 rfl rfl rfl ?_
            refine mv (.pointer _) rfl ?_
            refine nlc rfl ?_
            refine fad rfl Tryd.underlying66 rfl ty3.sz ?_
            refine ldp 1 2 _ rfl rfl rfl rfl ty3 ?_
            refine stw 0 _ [pt (0 : Int), pt ([] : Str), p1 (.slice none 0 0), pt (⟨0⟩ : F64), pt (⟨0⟩ : F64), pt (0 : UInt64), pt (zarr : (Arr UInt8 32))] rfl rfl rfl rfl ty30 ⟨keepI [1, 2, 3, 4, 5] rfl, ?_⟩
            refine asg (.int _ _) rfl ?_
            refine asg (.int _ _) rfl ?_
            refine jt ?_
            refine c_ret ?_
            exact j_end (own0 := []) (ro0 := [tPow10 3, tDb64 8]) (.inl rfl) rfl (hr3 Tryd.results13 (rvc (p := pa [pt (0 : Int), pt ([] : Str), p1 (.slice none 0 0), pt (⟨0⟩ : F64), pt (⟨0⟩ : F64), pt (0 : UInt64), pt (zarr : (Arr UInt8 32))]) 0 rfl rfl rfl ty30) (rvt (v := (.int _ _)) rfl) (rvt (v := (.int _ _)) rfl)) [] [0, 1, 2, 3] [] [_, _, _, _] [] _ rfl rfl (by kernel_rfl) rfl impl_nil (.inr ⟨_, parse_read_e (by assumption) hmk19 (by omega), rfl, rfl, rfl⟩)
          · replace h15 := ndf h15
            refine c_skip ?_
            refine e_then ?_
            refine c_seq ?_
            refine c_seq ?_
            refine c_reg ?_
            refine mv (.pointer _) rfl ?_
            refine nlc rfl ?_
            refine fad rfl Tryd.underlying66 rfl ty3.sz ?_
            refine ldp 2 2 _ rfl rfl rfl rfl ty3 ?_
            refine cmp false rfl rfl rfl ?_
            refine jt ?_
            refine c_false rfl ?_
            refine c_skip ?_
            refine e_then ?_
            refine c_seq ?_
            refine c_reg ?_
            refine ldw 1 _ rfl rfl ty30 ?_
            refine stw 0 _ [pt (2 : Int), pt ([] : Str), p1 (.slice mo19.adr mm19.length mo19.cap), pt (⟨0⟩ : F64), pt (⟨0⟩ : F64), pt (2 : UInt64), pt (zarr : (Arr UInt8 32))] rfl rfl rfl rfl ty30 ⟨trivial, ?_⟩
            refine asg (.int _ _) rfl ?_
            refine asg (.int _ _) rfl ?_
            refine jt ?_
            refine c_ret ?_
            exact j_end (own0 := []) (ro0 := [tPow10 3, tDb64 8]) (.inl rfl) rfl (hr3 Tryd.results13 (rvc (p := pa [pt (2 : Int), pt ([] : Str), p1 (.slice mo19.adr mm19.length mo19.cap), pt (⟨0⟩ : F64), pt (⟨0⟩ : F64), pt (2 : UInt64), pt (zarr : (Arr UInt8 32))]) 0 rfl rfl rfl ty30) (rvt (v := (.int _ _)) rfl) (rvt (v := (.int _ _)) rfl)) [3] [0, 1, 2] [_] [_, _, _] [] _ rfl rfl (by kernel_rfl) rfl impl_nil (.inl ⟨(⟨(2 : Int), ([] : Str), (⟨0⟩ : F64), (⟨0⟩ : F64), (2 : UInt64), (zarr : (Arr UInt8 32))⟩ : Con), mm19, mo19, _, (by have h := parse_read (by assumption) hmk19 (by omega); exact h), by omega, hmk19o, rfl, rfl, rfl⟩)
        · refine ⟨trivial, ?_⟩
          refine fad rfl Tryd.underlying30 rfl ty22.sz ?_
          refine stp 1 2 _ (p1 (.slice mo19.adr mm19.length mo19.cap)) rfl rfl rfl rfl rfl rfl ty22 ⟨trivial, ?_⟩
          refine jn ?_
          refine e_in ?_
          refine e_then ?_
          refine c_seq ?_
          refine c_seq ?_
          refine c_reg ?_
          refine mv (.pointer _) rfl ?_
          refine nlc rfl ?_
          refine fad rfl Tryd.underlying66 rfl ty3.sz ?_
          refine ldp 2 2 _ rfl rfl rfl rfl ty3 ?_
          refine cmp false rfl rfl (by simp only [cmpV]; exact congrArg some (decide_eq_false (by omega))) ?_
          refine mv (.bool _) rfl ?_
          refine g_off rfl rfl rfl rfl ?_
          refine g_off rfl rfl rfl rfl ?_
          refine g_off rfl rfl rfl rfl ?_
          refine g_off rfl rfl rfl rfl ?_
          refine g_off rfl rfl rfl rfl ?_
          refine g_off rfl rfl rfl rfl ?_
          refine g_off rfl rfl rfl rfl ?_
          refine pkf (.bool _) rfl rfl ?_
          refine jt ?_
          refine c_false rfl ?_
          refine c_skip ?_
          refine e_then ?_
          refine c_seq ?_
          refine c_seq ?_
          refine c_reg ?_
          refine mv (.pointer _) rfl ?_
          refine nlc rfl ?_
          refine fad rfl Tryd.underlying66 rfl ty3.sz ?_
          refine ldp 2 2 _ rfl rfl rfl rfl ty3 ?_
          refine cmp true rfl rfl (by simp only [cmpV]; exact congrArg some (decide_eq_true (by omega))) ?_
          refine jt ?_
          refine c_true rfl ?_
          refine c_seq ?_
          refine c_dr [_, _, _, _, _] [] [(0, 0), (1, 0), (2, 0), (3, 0), (4, 0), (5, 1), (6, 0), (7, 0)] follows (by kernel_rfl) calm_body (keepS [1, 2, 3, 4, 5] rfl) ?_
          refine bld [pt (0 : Int), pt ([] : Str), p1 (.slice none 0 0), pt (⟨0⟩ : F64), pt (⟨0⟩ : F64), pt (0 : UInt64), pt (zarr : (Arr UInt8 32))] [] _ Tryd.underlying30 (lay30 _ Tryd.underlying30) z30 rfl rfl rfl ?_
          refine mv (.pointer _) rfl ?_
          refine nlc rfl ?_
          refine fad rfl Tryd.underlying66 rfl ty3.sz ?_
          refine ldp 1 2 _ rfl rfl rfl rfl ty3 ?_
          refine stw 0 _ [pt (0 : Int), pt ([] : Str), p1 (.slice none 0 0), pt (⟨0⟩ : F64), pt (⟨0⟩ : F64), pt (0 : UInt64), pt (zarr : (Arr UInt8 32))] rfl rfl rfl rfl ty30 ⟨keepI [1, 2, 3, 4, 5] rfl, ?_⟩
          refine asg (.int _ _) rfl ?_
          refine asg (.int _ _) rfl ?_
          refine jt ?_
          refine c_ret ?_
          exact j_end (own0 := []) (ro0 := [tPow10 3, tDb64 8]) (.inl rfl) rfl (hr3 Tryd.results13 (rvc (p := pa [pt (0 : Int), pt ([] : Str), p1 (.slice none 0 0), pt (⟨0⟩ : F64), pt (⟨0⟩ : F64), pt (0 : UInt64), pt (zarr : (Arr UInt8 32))]) 0 rfl rfl rfl ty30) (rvt (v := (.int _ _)) rfl) (rvt (v := (.int _ _)) rfl)) [] [0, 1, 2, 3] [] [_, _, _, _] [] _ rfl rfl (by kernel_rfl) rfl impl_nil (.inr ⟨_, parse_read_f0 (by assumption) hmk19, rfl, rfl, rfl⟩)
      · replace h14 := of_decide_eq_false h14
        refine c_seq ?_
        refine c_reg ?_
        refine scmp (a := (word s 0)) (b := ([112, 108, 97, 99, 101] : Str)) _ rfl rfl Tryd.underlying9 rfl ?_
        refine asg (.bool _) rfl ?_
        refine jt ?_
        refine c_cond rfl (fun h16 => ?_) (fun h16 => ?_)
        · replace h16 := of_decide_eq_true h16
          refine c_seq ?_
          refine c_reg ?_
          refine fad rfl Tryd.underlying30 rfl ty3.sz ?_
          refine stp 2 0 _ (pt (3 : Int)) rfl rfl rfl rfl rfl rfl ty3 ⟨trivial, ?_⟩
          refine jt ?_
          refine c_seq ?_
          refine c_reg ?_
          refine mv (.pointer _) rfl ?_
          refine cal (rdfl_ct b13 s ((word s 0).length) (by omega) (by omega) (90 : UInt64) ⟨4636033603912859648⟩ (by decide) earth_90) [1] [0, 2] [_, _] rfl rfl rfl (by kernel_rfl) impl_nil rfl ?_; rintro _ _ _ (⟨df20, dq20, hdg20, rfl, rfl, rfl⟩ | ⟨df20, dq20, da20, hdg20, rfl, rfl, rfl⟩)
          · have hdg20b := degR_next hdg20; refine ⟨trivial, ?_⟩
            refine fad rfl Tryd.underlying30 rfl ty28.sz ?_
            refine stp 1 3 _ (pt df20) rfl rfl rfl rfl rfl rfl ty28 ⟨trivial, ?_⟩
            refine jt ?_
            refine c_seq ?_
            refine c_reg ?_
            refine mv (.pointer _) rfl ?_
            refine cal (rdfl_ct b13 s dq20 (by omega) (by omega) (180 : UInt64) ⟨4640537203540230144⟩ (by decide) earth_180) [2] [0, 1] [_, _] rfl rfl rfl (by kernel_rfl) impl_nil rfl ?_; rintro _ _ _ (⟨df21, dq21, hdg21, rfl, rfl, rfl⟩ | ⟨df21, dq21, da21, hdg21, rfl, rfl, rfl⟩)
            · have hdg21b := degR_next hdg21; refine ⟨trivial, ?_⟩
              refine fad rfl Tryd.underlying30 rfl ty28.sz ?_
              refine stp 1 4 _ (pt df21) rfl rfl rfl rfl rfl rfl ty28 ⟨trivial, ?_⟩
              refine jt ?_
              refine c_reg ?_
              refine mv (.pointer _) rfl ?_
              refine cal (rdtext_ct b13 s dq21 (by omega) (by omega) 0 200 (by omega) (by omega)) [2] [0, 1] [_, _] rfl rfl rfl (by kernel_rfl) (impl_cons (impl_at 1 rfl) impl_nil) rfl ?_; rintro _ _ _ (⟨tt22, tq22, htx22, rfl, rfl, rfl⟩ | ⟨tt22, tq22, ta22, htx22, rfl, rfl, rfl⟩)
              · have htx22b := textR_next htx22; refine ⟨trivial, ?_⟩
                refine fad rfl Tryd.underlying30 rfl ty9.sz ?_
                refine stp 1 1 _ (pt tt22) rfl rfl rfl rfl rfl rfl ty9 ⟨trivial, ?_⟩
                refine jn ?_
                refine e_in ?_
                refine e_then ?_
                refine c_seq ?_
                refine c_seq ?_
                refine c_reg ?_
                refine mv (.pointer _) rfl ?_
                refine nlc rfl ?_
                refine fad rfl Tryd.underlying66 rfl ty3.sz ?_
                refine ldp 2 2 _ rfl rfl rfl rfl ty3 ?_
                refine cmp true rfl rfl rfl ?_
                refine mv (.bool _) rfl ?_
                refine g_on rfl rfl rfl ?_
                refine mv (.pointer _) rfl ?_
                refine g_on rfl rfl rfl ?_
                refine nlc rfl ?_
                refine g_on rfl rfl rfl ?_
                refine fad rfl Tryd.underlying66 rfl ty3.sz ?_
                refine g_on rfl rfl rfl ?_
                refine ldp 2 1 _ rfl rfl rfl rfl ty3 ?_
                refine g_on rfl rfl rfl ?_
                refine mv (.string _) rfl ?_
                refine g_on rfl rfl rfl ?_
                refine lenT (s := s) rfl Tryd.underlying9 ?_
                refine g_on rfl rfl rfl ?_
                refine cmp _ rfl rfl rfl ?_
                refine pkt (.bool _) rfl rfl ?_
                refine jt ?_
                refine c_cond rfl (fun h17 => ?_) (fun h17 => ?_)
                · replace h17 := ndt h17
                  refine c_reg ?_
                  refine mv (.pointer _) rfl ?_
                  refine mv (.pointer _) rfl ?_
                  refine nlc rfl ?_
                  refine fad rfl Tryd.underlying66 rfl ty3.sz ?_
                  refine ldp 2 1 _ rfl rfl rfl rfl ty3 ?_
                  refine nlc rfl ?_
                  refine fad rfl Tryd.underlying66 rfl ty3.sz ?_
                  refine stp 2 2 _ (p1 (.int .i64 ((tq22 : Nat) : Int))) rfl rfl rfl rfl rfl rfl ty3 ⟨trivial, ?_⟩
                  refine jt ?_
                  refine c_seq ?_
                  refine c_seq ?_
                  refine c_reg ?_
                  refine mv (.pointer _) rfl ?_
                  refine nlc rfl ?_
                  refine fad rfl Tryd.underlying66 rfl ty3.sz ?_
                  refine ldp 2 2 _ rfl rfl rfl rfl ty3 ?_
                  refine cmp true rfl rfl (by simp only [cmpV]; exact congrArg some (decide_eq_true (by omega))) ?_
                  refine jt ?_
                  refine c_true rfl ?_
                  refine c_seq ?_
                  refine c_dr [_, _, _, _] [] [(0, 0), (1, 0), (2, 0), (3, 0), (4, 0), (5, 1), (6, 0), (7, 0)] follows (by kernel_rfl) calm_body (keepS [1, 2, 3, 4] rfl) ?_
                  refine bld [pt (0 : Int), pt ([] : Str), p1 (.slice none 0 0), pt (⟨0⟩ : F64), pt (⟨0⟩ : F64), pt (0 : UInt64), pt (zarr : (Arr UInt8 32))] [] _ Tryd.underlying30 (lay30 _ Tryd.underlying30) z30 rfl rfl rfl ?_
                  refine mv (.pointer _) rfl ?_
                  refine nlc rfl ?_
                  refine fad rfl Tryd.underlying66 rfl ty3.sz ?_
                  refine ldp 1 2 _ rfl rfl rfl rfl ty3 ?_
                  refine stw 0 _ [pt (0 : Int), pt ([] : Str), p1 (.slice none 0 0), pt (⟨0⟩ : F64), pt (⟨0⟩ : F64), pt (0 : UInt64), pt (zarr : (Arr UInt8 32))] rfl rfl rfl rfl ty30 ⟨keepI [1, 2, 3, 4] rfl, ?_⟩
                  refine asg (.int _ _) rfl ?_
                  refine asg (.int _ _) rfl ?_
                  refine jt ?_
                  refine c_ret ?_
                  exact j_end (own0 := []) (ro0 := [tPow10 3, tDb64 8]) (.inl rfl) rfl (hr3 Tryd.results13 (rvc (p := pa [pt (0 : Int), pt ([] : Str), p1 (.slice none 0 0), pt (⟨0⟩ : F64), pt (⟨0⟩ : F64), pt (0 : UInt64), pt (zarr : (Arr UInt8 32))]) 0 rfl rfl rfl ty30) (rvt (v := (.int _ _)) rfl) (rvt (v := (.int _ _)) rfl)) [] [0, 1, 2] [] [_, _, _] [] _ rfl rfl (by kernel_rfl) rfl impl_nil (.inr ⟨_, parse_place_e (by assumption) hdg20 hdg21 htx22 (by omega), rfl, rfl, rfl⟩)
                · replace h17 := ndf h17
                  refine c_skip ?_
                  refine e_then ?_
                  refine c_seq ?_
                  refine c_seq ?_
                  refine c_reg ?_
                  refine mv (.pointer _) rfl ?_
                  refine nlc rfl ?_
                  refine fad rfl Tryd.underlying66 rfl ty3.sz ?_
                  refine ldp 2 2 _ rfl rfl rfl rfl ty3 ?_
                  refine cmp false rfl rfl rfl ?_
                  refine jt ?_
                  refine c_false rfl ?_
                  refine c_skip ?_
                  refine e_then ?_
                  refine c_seq ?_
                  refine c_reg ?_
                  refine ldw 1 _ rfl rfl ty30 ?_
                  refine stw 0 _ [pt (3 : Int), pt tt22, p1 (.slice none 0 0), pt df20, pt df21, pt (0 : UInt64), pt (zarr : (Arr UInt8 32))] rfl rfl rfl rfl ty30 ⟨trivial, ?_⟩
                  refine asg (.int _ _) rfl ?_
                  refine asg (.int _ _) rfl ?_
                  refine jt ?_
                  refine c_ret ?_
                  refine e_addE ?_
                  exact j_end (own0 := []) (ro0 := [tPow10 3, tDb64 8]) (.inl rfl) rfl (hr3 Tryd.results13 (rvc (p := pa [pt (3 : Int), pt tt22, p1 (.slice none 0 0), pt df20, pt df21, pt (0 : UInt64), pt (zarr : (Arr UInt8 32))]) 0 rfl rfl rfl ty30) (rvt (v := (.int _ _)) rfl) (rvt (v := (.int _ _)) rfl)) [3] [0, 1, 2] [_] [_, _, _] [] _ rfl rfl (by kernel_rfl) rfl impl_nil (.inl ⟨(⟨(3 : Int), tt22, df20, df21, (0 : UInt64), (zarr : (Arr UInt8 32))⟩ : Con), [], Ow.nil, _, (by have h := parse_place (by assumption) hdg20 hdg21 htx22 (by omega); exact h), by simp, Ow.nil_ok, rfl, rfl, rfl⟩)
              · refine ⟨trivial, ?_⟩
                refine fad rfl Tryd.underlying30 rfl ty9.sz ?_
                refine stp 1 1 _ (pt tt22) rfl rfl rfl rfl rfl rfl ty9 ⟨trivial, ?_⟩
                refine jn ?_
                refine e_in ?_
                refine e_then ?_
                refine c_seq ?_
                refine c_seq ?_
                refine c_reg ?_
                refine mv (.pointer _) rfl ?_
                refine nlc rfl ?_
                refine fad rfl Tryd.underlying66 rfl ty3.sz ?_
                refine ldp 2 2 _ rfl rfl rfl rfl ty3 ?_
                refine cmp false rfl rfl (by simp only [cmpV]; exact congrArg some (decide_eq_false (by omega))) ?_
                refine mv (.bool _) rfl ?_
                refine g_off rfl rfl rfl rfl ?_
                refine g_off rfl rfl rfl rfl ?_
                refine g_off rfl rfl rfl rfl ?_
                refine g_off rfl rfl rfl rfl ?_
                refine g_off rfl rfl rfl rfl ?_
                refine g_off rfl rfl rfl rfl ?_
                refine g_off rfl rfl rfl rfl ?_
                refine pkf (.bool _) rfl rfl ?_
                refine jt ?_
                refine c_false rfl ?_
                refine c_skip ?_
                refine e_then ?_
                refine c_seq ?_
                refine c_seq ?_
                refine c_reg ?_
                refine mv (.pointer _) rfl ?_
                refine nlc rfl ?_
                refine fad rfl Tryd.underlying66 rfl ty3.sz ?_
                refine ldp 2 2 _ rfl rfl rfl rfl ty3 ?_
                refine cmp true rfl rfl (by simp only [cmpV]; exact congrArg some (decide_eq_true (by omega))) ?_
                refine jt ?_
                refine c_true rfl ?_
                refine c_seq ?_
                refine c_dr [_, _, _, _] [] [(0, 0), (1, 0), (2, 0), (3, 0), (4, 0), (5, 1), (6, 0), (7, 0)] follows (by kernel_rfl) calm_body (keepS [1, 2, 3, 4] rfl) ?_
                refine bld [pt (0 : Int), pt ([] : Str), p1 (.slice none 0 0), pt (⟨0⟩ : F64), pt (⟨0⟩ : F64), pt (0 : UInt64), pt (zarr : (Arr UInt8 32))] [] _ Tryd.underlying30 (lay30 _ Tryd.underlying30) z30 rfl rfl rfl ?_
                refine mv (.pointer _) rfl ?_
                refine nlc rfl ?_
                refine fad rfl Tryd.underlying66 rfl ty3.sz ?_
                refine ldp 1 2 _ rfl rfl rfl rfl ty3 ?_
                refine stw 0 _ [pt (0 : Int), pt ([] : Str), p1 (.slice none 0 0), pt (⟨0⟩ : F64), pt (⟨0⟩ : F64), pt (0 : UInt64), pt (zarr : (Arr UInt8 32))] rfl rfl rfl rfl ty30 ⟨keepI [1, 2, 3, 4] rfl, ?_⟩
                refine asg (.int _ _) rfl ?_
                refine asg (.int _ _) rfl ?_
                refine jt ?_
                refine c_ret ?_
                exact j_end (own0 := []) (ro0 := [tPow10 3, tDb64 8]) (.inl rfl) rfl (hr3 Tryd.results13 (rvc (p := pa [pt (0 : Int), pt ([] : Str), p1 (.slice none 0 0), pt (⟨0⟩ : F64), pt (⟨0⟩ : F64), pt (0 : UInt64), pt (zarr : (Arr UInt8 32))]) 0 rfl rfl rfl ty30) (rvt (v := (.int _ _)) rfl) (rvt (v := (.int _ _)) rfl)) [] [0, 1, 2] [] [_, _, _] [] _ rfl rfl (by kernel_rfl) rfl impl_nil (.inr ⟨_, parse_place_f2 (by assumption) hdg20 hdg21 htx22, rfl, rfl, rfl⟩)
            · refine ⟨trivial, ?_⟩
              refine fad rfl Tryd.underlying30 rfl ty28.sz ?_
              refine stp 1 4 _ (pt df21) rfl rfl rfl rfl rfl rfl ty28 ⟨trivial, ?_⟩
              refine jt ?_
              refine c_reg ?_
              refine mv (.pointer _) rfl ?_
              refine cal (rdtext_bad b13 s da21 dq21 0 200) [2] [0, 1] [_, _] rfl rfl rfl (by kernel_rfl) impl_nil rfl ?_; rintro _ _ _ ⟨rfl, rfl, rfl⟩; refine ⟨trivial, ?_⟩
              refine fad rfl Tryd.underlying30 rfl ty9.sz ?_
              refine stp 1 1 _ (pt ([] : Str)) rfl rfl rfl rfl rfl rfl ty9 ⟨trivial, ?_⟩
              refine jn ?_
              refine e_in ?_
              refine e_then ?_
              refine c_seq ?_
              refine c_seq ?_
              refine c_reg ?_
              refine mv (.pointer _) rfl ?_
              refine nlc rfl ?_
              refine fad rfl Tryd.underlying66 rfl ty3.sz ?_
              refine ldp 2 2 _ rfl rfl rfl rfl ty3 ?_
              refine cmp false rfl rfl (by simp only [cmpV]; exact congrArg some (decide_eq_false (by omega))) ?_
              refine mv (.bool _) rfl ?_
              refine g_off rfl rfl rfl rfl ?_
              refine g_off rfl rfl rfl rfl ?_
              refine g_off rfl rfl rfl rfl ?_
              refine g_off rfl rfl rfl rfl ?_
              refine g_off rfl rfl rfl rfl ?_
              refine g_off rfl rfl rfl rfl ?_
              refine g_off rfl rfl rfl rfl ?_
              refine pkf (.bool _) rfl rfl ?_
              refine jt ?_
              refine c_false rfl ?_
              refine c_skip ?_
              refine e_then ?_
              refine c_seq ?_
              refine c_seq ?_
              refine c_reg ?_
              refine mv (.pointer _) rfl ?_
              refine nlc rfl ?_
              refine fad rfl Tryd.underlying66 rfl ty3.sz ?_
              refine ldp 2 2 _ rfl rfl rfl rfl ty3 ?_
              refine cmp true rfl rfl (by simp only [cmpV]; exact congrArg some (decide_eq_true (by omega))) ?_
              refine jt ?_
              refine c_true rfl ?_
              refine c_seq ?_
              refine c_dr [_, _, _, _] [] [(0, 0), (1, 0), (2, 0), (3, 0), (4, 0), (5, 1), (6, 0), (7, 0)] follows (by kernel_rfl) calm_body (keepS [1, 2, 3, 4] rfl) ?_
              refine bld [pt (0 : Int), pt ([] : Str), p1 (.slice none 0 0), pt (⟨0⟩ : F64), pt (⟨0⟩ : F64), pt (0 : UInt64), pt (zarr : (Arr UInt8 32))] [] _ Tryd.underlying30 (lay30 _ Tryd.underlying30) z30 rfl rfl rfl ?_
              refine mv (.pointer _) rfl ?_
              refine nlc rfl ?_
              refine fad rfl Tryd.underlying66 rfl ty3.sz ?_
              refine ldp 1 2 _ rfl rfl rfl rfl ty3 ?_
              refine stw 0 _ [pt (0 : Int), pt ([] : Str), p1 (.slice none 0 0), pt (⟨0⟩ : F64), pt (⟨0⟩ : F64), pt (0 : UInt64), pt (zarr : (Arr UInt8 32))] rfl rfl rfl rfl ty30 ⟨keepI [1, 2, 3, 4] rfl, ?_⟩
              refine asg (.int _ _) rfl ?_
              refine asg (.int _ _) rfl ?_
              refine jt ?_
              refine c_ret ?_
              exact j_end (own0 := []) (ro0 := [tPow10 3, tDb64 8]) (.inl rfl) rfl (hr3 Tryd.results13 (rvc (p := pa [pt (0 : Int), pt ([] : Str), p1 (.slice none 0 0), pt (⟨0⟩ : F64), pt (⟨0⟩ : F64), pt (0 : UInt64), pt (zarr : (Arr UInt8 32))]) 0 rfl rfl rfl ty30) (rvt (v := (.int _ _)) rfl) (rvt (v := (.int _ _)) rfl)) [] [0, 1, 2] [] [_, _, _] [] _ rfl rfl (by kernel_rfl) rfl impl_nil (.inr ⟨_, parse_place_f1 (by assumption) hdg20 hdg21, rfl, rfl, rfl⟩)
          · refine ⟨trivial, ?_⟩
            refine fad rfl Tryd.underlying30 rfl ty28.sz ?_
            refine stp 1 3 _ (pt df20) rfl rfl rfl rfl rfl rfl ty28 ⟨trivial, ?_⟩
            refine jt ?_
            refine c_seq ?_
            refine c_reg ?_
            refine mv (.pointer _) rfl ?_
            refine cal (rdfl_bad b13 s da20 dq20 (180 : UInt64)) [2] [0, 1] [_, _] rfl rfl rfl (by kernel_rfl) impl_nil rfl ?_; rintro _ _ _ ⟨rfl, rfl, rfl⟩; refine ⟨trivial, ?_⟩
            refine fad rfl Tryd.underlying30 rfl ty28.sz ?_
            refine stp 1 4 _ (pt (⟨0⟩ : F64)) rfl rfl rfl rfl rfl rfl ty28 ⟨trivial, ?_⟩
            refine jt ?_
            refine c_reg ?_
            refine mv (.pointer _) rfl ?_
            refine cal (rdtext_bad b13 s da20 dq20 0 200) [2] [0, 1] [_, _] rfl rfl rfl (by kernel_rfl) impl_nil rfl ?_; rintro _ _ _ ⟨rfl, rfl, rfl⟩; refine ⟨trivial, ?_⟩
            refine fad rfl Tryd.underlying30 rfl ty9.sz ?_
            refine stp 1 1 _ (pt ([] : Str)) rfl rfl rfl rfl rfl rfl ty9 ⟨trivial, ?_⟩
            refine jn ?_
            refine e_in ?_
            refine e_then ?_
            refine c_seq ?_
            refine c_seq ?_
            refine c_reg ?_
            refine mv (.pointer _) rfl ?_
            refine nlc rfl ?_
            refine fad rfl Tryd.underlying66 rfl ty3.sz ?_
            refine ldp 2 2 _ rfl rfl rfl rfl ty3 ?_
            refine cmp false rfl rfl (by simp only [cmpV]; exact congrArg some (decide_eq_false (by omega))) ?_
            refine mv (.bool _) rfl ?_
            refine g_off rfl rfl rfl rfl ?_
            refine g_off rfl rfl rfl rfl ?_
            refine g_off rfl rfl rfl rfl ?_
            refine g_off rfl rfl rfl rfl ?_
            refine g_off rfl rfl rfl rfl ?_
            refine g_off rfl rfl rfl rfl ?_
            refine g_off rfl rfl rfl rfl ?_
            refine pkf (.bool _) rfl rfl ?_
            refine jt ?_
            refine c_false rfl ?_
            refine c_skip ?_
            refine e_then ?_
            refine c_seq ?_
            refine c_seq ?_
            refine c_reg ?_
            refine mv (.pointer _) rfl ?_
            refine nlc rfl ?_
            refine fad rfl Tryd.underlying66 rfl ty3.sz ?_
            refine ldp 2 2 _ rfl rfl rfl rfl ty3 ?_
            refine cmp true rfl rfl (by simp only [cmpV]; exact congrArg some (decide_eq_true (by omega))) ?_
            refine jt ?_
            refine c_true rfl ?_
            refine c_seq ?_
            refine c_dr [_, _, _, _] [] [(0, 0), (1, 0), (2, 0), (3, 0), (4, 0), (5, 1), (6, 0), (7, 0)] follows (by kernel_rfl) calm_body (keepS [1, 2, 3, 4] rfl) ?_
            refine bld [pt (0 : Int), pt ([] : Str), p1 (.slice none 0 0), pt (⟨0⟩ : F64), pt (⟨0⟩ : F64), pt (0 : UInt64), pt (zarr : (Arr UInt8 32))] [] _ Tryd.underlying30 (lay30 _ Tryd.underlying30) z30 rfl rfl rfl ?_
            refine mv (.pointer _) rfl ?_
            refine nlc rfl ?_
            refine fad rfl Tryd.underlying66 rfl ty3.sz ?_
            refine ldp 1 2 _ rfl rfl rfl rfl ty3 ?_
            refine stw 0 _ [pt (0 : Int), pt ([] : Str), p1 (.slice none 0 0), pt (⟨0⟩ : F64), pt (⟨0⟩ : F64), pt (0 : UInt64), pt (zarr : (Arr UInt8 32))] rfl rfl rfl rfl ty30 ⟨keepI [1, 2, 3, 4] rfl, ?_⟩
            refine asg (.int _ _) rfl ?_
            refine asg (.int _ _) rfl ?_
            refine jt ?_
            refine c_ret ?_
            exact j_end (own0 := []) (ro0 := [tPow10 3, tDb64 8]) (.inl rfl) rfl (hr3 Tryd.results13 (rvc (p := pa [pt (0 : Int), pt ([] : Str), p1 (.slice none 0 0), pt (⟨0⟩ : F64), pt (⟨0⟩ : F64), pt (0 : UInt64), pt (zarr : (Arr UInt8 32))]) 0 rfl rfl rfl ty30) (rvt (v := (.int _ _)) rfl) (rvt (v := (.int _ _)) rfl)) [] [0, 1, 2] [] [_, _, _] [] _ rfl rfl (by kernel_rfl) rfl impl_nil (.inr ⟨_, parse_place_f0 (by assumption) hdg20, rfl, rfl, rfl⟩)
        · replace h16 := of_decide_eq_false h16
          refine c_seq ?_
          refine c_reg ?_
          refine scmp (a := (word s 0)) (b := ([114, 101, 97, 99, 116] : Str)) _ rfl rfl Tryd.underlying9 rfl ?_
          refine asg (.bool _) rfl ?_
          refine jt ?_
          refine c_cond rfl (fun h18 => ?_) (fun h18 => ?_)
          · replace h18 := of_decide_eq_true h18
            refine c_seq ?_
            refine c_reg ?_
            refine fad rfl Tryd.underlying30 rfl ty3.sz ?_
            refine stp 2 0 _ (pt (4 : Int)) rfl rfl rfl rfl rfl rfl ty3 ⟨trivial, ?_⟩
            refine jt ?_
            refine c_seq ?_
            refine c_reg ?_
            refine mv (.pointer _) rfl ?_
            refine cal (rdnum_ct b13 s ((word s 0).length) (by omega) (by omega) (4294967295 : UInt64) (by decide)) [1] [0, 2] [_, _] rfl rfl rfl (by kernel_rfl) (impl_cons (impl_at 0 rfl) impl_nil) rfl ?_; rintro _ _ _ (⟨nn26, nq26, hnm26, rfl, rfl, rfl⟩ | ⟨nn26, nq26, na26, hnm26, rfl, rfl, rfl⟩)
            · have hnm26b := numR_next hnm26; refine ⟨trivial, ?_⟩
              refine fad rfl Tryd.underlying30 rfl ty23.sz ?_
              refine stp 1 5 _ (pt nn26) rfl rfl rfl rfl rfl rfl ty23 ⟨trivial, ?_⟩
              refine jt ?_
              refine c_reg ?_
              refine mv (.pointer _) rfl ?_
              refine cal (rdtext_ct b13 s nq26 (by omega) (by omega) 1 64 (by omega) (by omega)) [2] [0, 1] [_, _] rfl rfl rfl (by kernel_rfl) (impl_cons (impl_at 1 rfl) impl_nil) rfl ?_; rintro _ _ _ (⟨tt27, tq27, htx27, rfl, rfl, rfl⟩ | ⟨tt27, tq27, ta27, htx27, rfl, rfl, rfl⟩)
              · have htx27b := textR_next htx27; refine ⟨trivial, ?_⟩
                refine fad rfl Tryd.underlying30 rfl ty9.sz ?_
                refine stp 1 1 _ (pt tt27) rfl rfl rfl rfl rfl rfl ty9 ⟨trivial, ?_⟩
                refine jn ?_
                refine e_in ?_
                refine e_then ?_
                refine c_seq ?_
                refine c_seq ?_
                refine c_reg ?_
                refine mv (.pointer _) rfl ?_
                refine nlc rfl ?_
                refine fad rfl Tryd.underlying66 rfl ty3.sz ?_
                refine ldp 2 2 _ rfl rfl rfl rfl ty3 ?_
                refine cmp true rfl rfl rfl ?_
                refine mv (.bool _) rfl ?_
                refine g_on rfl rfl rfl ?_
                refine mv (.pointer _) rfl ?_
                refine g_on rfl rfl rfl ?_
                refine nlc rfl ?_
                refine g_on rfl rfl rfl ?_
                refine fad rfl Tryd.underlying66 rfl ty3.sz ?_
                refine g_on rfl rfl rfl ?_
                refine ldp 2 1 _ rfl rfl rfl rfl ty3 ?_
                refine g_on rfl rfl rfl ?_
                refine mv (.string _) rfl ?_
                refine g_on rfl rfl rfl ?_
                refine lenT (s := s) rfl Tryd.underlying9 ?_
                refine g_on rfl rfl rfl ?_
                refine cmp _ rfl rfl rfl ?_
                refine pkt (.bool _) rfl rfl ?_
                refine jt ?_
                refine c_cond rfl (fun h19 => ?_) (fun h19 => ?_)
                · replace h19 := ndt h19
                  refine c_reg ?_
                  refine mv (.pointer _) rfl ?_
                  refine mv (.pointer _) rfl ?_
                  refine nlc rfl ?_
                  refine fad rfl Tryd.underlying66 rfl ty3.sz ?_
                  refine ldp 2 1 _ rfl rfl rfl rfl ty3 ?_
                  refine nlc rfl ?_
                  refine fad rfl Tryd.underlying66 rfl ty3.sz ?_
                  refine stp 2 2 _ (p1 (.int .i64 ((tq27 : Nat) : Int))) rfl rfl rfl rfl rfl rfl ty3 ⟨trivial, ?_⟩
                  refine jt ?_
                  refine c_seq ?_
                  refine c_seq ?_
                  refine c_reg ?_
                  refine mv (.pointer _) rfl ?_
                  refine nlc rfl ?_
                  refine fad rfl Tryd.underlying66 rfl ty3.sz ?_
                  refine ldp 2 2 _ rfl rfl rfl rfl ty3 ?_
                  refine cmp true rfl rfl (by simp only [cmpV]; exact congrArg some (decide_eq_true (by omega))) ?_
                  refine jt ?_
                  refine c_true rfl ?_
                  refine c_seq ?_
                  refine c_dr [_, _, _, _] [] [(0, 0), (1, 0), (2, 0), (3, 0), (4, 0), (5, 1), (6, 0), (7, 0)] follows (by kernel_rfl) calm_body (keepS [1, 2, 3, 4] rfl) ?_
                  refine bld [pt (0 : Int), pt ([] : Str), p1 (.slice none 0 0), pt (⟨0⟩ : F64), pt (⟨0⟩ : F64), pt (0 : UInt64), pt (zarr : (Arr UInt8 32))] [] _ Tryd.underlying30 (lay30 _ Tryd.underlying30) z30 rfl rfl rfl ?_
                  refine mv (.pointer _) rfl ?_
                  refine nlc rfl ?_
                  refine fad rfl Tryd.underlying66 rfl ty3.sz ?_
                  refine ldp 1 2 _ rfl rfl rfl rfl ty3 ?_
                  refine stw 0 _ [pt (0 : Int), pt ([] : Str), p1 (.slice none 0 0), pt (⟨0⟩ : F64), pt (⟨0⟩ : F64), pt (0 : UInt64), pt (zarr : (Arr UInt8 32))] rfl rfl rfl rfl ty30 ⟨keepI [1, 2, 3, 4] rfl, ?_⟩
                  refine asg (.int _ _) rfl ?_
                  refine asg (.int _ _) rfl ?_
                  refine jt ?_
                  refine c_ret ?_
                  exact j_end (own0 := []) (ro0 := [tPow10 3, tDb64 8]) (.inl rfl) rfl (hr3 Tryd.results13 (rvc (p := pa [pt (0 : Int), pt ([] : Str), p1 (.slice none 0 0), pt (⟨0⟩ : F64), pt (⟨0⟩ : F64), pt (0 : UInt64), pt (zarr : (Arr UInt8 32))]) 0 rfl rfl rfl ty30) (rvt (v := (.int _ _)) rfl) (rvt (v := (.int _ _)) rfl)) [] [0, 1, 2] [] [_, _, _] [] _ rfl rfl (by kernel_rfl) rfl impl_nil (.inr ⟨_, parse_react_e (by assumption) hnm26 htx27 (by omega), rfl, rfl, rfl⟩)
                · replace h19 := ndf h19
                  refine c_skip ?_
                  refine e_then ?_
                  refine c_seq ?_
                  refine c_seq ?_
                  refine c_reg ?_
                  refine mv (.pointer _) rfl ?_
                  refine nlc rfl ?_
                  refine fad rfl Tryd.underlying66 rfl ty3.sz ?_
                  refine ldp 2 2 _ rfl rfl rfl rfl ty3 ?_
                  refine cmp false rfl rfl rfl ?_
                  refine jt ?_
                  refine c_false rfl ?_
                  refine c_skip ?_
                  refine e_then ?_
                  refine c_seq ?_
                  refine c_reg ?_
                  refine ldw 1 _ rfl rfl ty30 ?_
                  refine stw 0 _ [pt (4 : Int), pt tt27, p1 (.slice none 0 0), pt (⟨0⟩ : F64), pt (⟨0⟩ : F64), pt nn26, pt (zarr : (Arr UInt8 32))] rfl rfl rfl rfl ty30 ⟨trivial, ?_⟩
                  refine asg (.int _ _) rfl ?_
                  refine asg (.int _ _) rfl ?_
                  refine jt ?_
                  refine c_ret ?_
                  refine e_addE ?_
                  exact j_end (own0 := []) (ro0 := [tPow10 3, tDb64 8]) (.inl rfl) rfl (hr3 Tryd.results13 (rvc (p := pa [pt (4 : Int), pt tt27, p1 (.slice none 0 0), pt (⟨0⟩ : F64), pt (⟨0⟩ : F64), pt nn26, pt (zarr : (Arr UInt8 32))]) 0 rfl rfl rfl ty30) (rvt (v := (.int _ _)) rfl) (rvt (v := (.int _ _)) rfl)) [3] [0, 1, 2] [_] [_, _, _] [] _ rfl rfl (by kernel_rfl) rfl impl_nil (.inl ⟨(⟨(4 : Int), tt27, (⟨0⟩ : F64), (⟨0⟩ : F64), nn26, (zarr : (Arr UInt8 32))⟩ : Con), [], Ow.nil, _, (by have h := parse_react (by assumption) hnm26 htx27 (by omega); rw [UInt64.ofNat_toNat] at h; exact h), by simp, Ow.nil_ok, rfl, rfl, rfl⟩)
              · refine ⟨trivial, ?_⟩
                refine fad rfl Tryd.underlying30 rfl ty9.sz ?_
                refine stp 1 1 _ (pt tt27) rfl rfl rfl rfl rfl rfl ty9 ⟨trivial, ?_⟩
                refine jn ?_
                refine e_in ?_
                refine e_then ?_
                refine c_seq ?_
                refine c_seq ?_
                refine c_reg ?_
                refine mv (.pointer _) rfl ?_
                refine nlc rfl ?_
                refine fad rfl Tryd.underlying66 rfl ty3.sz ?_
                refine ldp 2 2 _ rfl rfl rfl rfl ty3 ?_
                refine cmp false rfl rfl (by simp only [cmpV]; exact congrArg some (decide_eq_false (by omega))) ?_
                refine mv (.bool _) rfl ?_
                refine g_off rfl rfl rfl rfl ?_
                refine g_off rfl rfl rfl rfl ?_
                refine g_off rfl rfl rfl rfl ?_
                refine g_off rfl rfl rfl rfl ?_
                refine g_off rfl rfl rfl rfl ?_
                refine g_off rfl rfl rfl rfl ?_
                refine g_off rfl rfl rfl rfl ?_
                refine pkf (.bool _) rfl rfl ?_
                refine jt ?_
                refine c_false rfl ?_
                refine c_skip ?_
                refine e_then ?_
                refine c_seq ?_
                refine c_seq ?_
                refine c_reg ?_
                refine mv (.pointer _) rfl ?_
                refine nlc rfl ?_
                refine fad rfl Tryd.underlying66 rfl ty3.sz ?_
                refine ldp 2 2 _ rfl rfl rfl rfl ty3 ?_
                refine cmp true rfl rfl (by simp only [cmpV]; exact congrArg some (decide_eq_true (by omega))) ?_
                refine jt ?_
                refine c_true rfl ?_
                refine c_seq ?_
                refine c_dr [_, _, _, _] [] [(0, 0), (1, 0), (2, 0), (3, 0), (4, 0), (5, 1), (6, 0), (7, 0)] follows (by kernel_rfl) calm_body (keepS [1, 2, 3, 4] rfl) ?_
                refine bld [pt (0 : Int), pt ([] : Str), p1 (.slice none 0 0), pt (⟨0⟩ : F64), pt (⟨0⟩ : F64), pt (0 : UInt64), pt (zarr : (Arr UInt8 32))] [] _ Tryd.underlying30 (lay30 _ Tryd.underlying30) z30 rfl rfl rfl ?_
                refine mv (.pointer _) rfl ?_
                refine nlc rfl ?_
                refine fad rfl Tryd.underlying66 rfl ty3.sz ?_
                refine ldp 1 2 _ rfl rfl rfl rfl ty3 ?_
                refine stw 0 _ [pt (0 : Int), pt ([] : Str), p1 (.slice none 0 0), pt (⟨0⟩ : F64), pt (⟨0⟩ : F64), pt (0 : UInt64), pt (zarr : (Arr UInt8 32))] rfl rfl rfl rfl ty30 ⟨keepI [1, 2, 3, 4] rfl, ?_⟩
                refine asg (.int _ _) rfl ?_
                refine asg (.int _ _) rfl ?_
                refine jt ?_
                refine c_ret ?_
                exact j_end (own0 := []) (ro0 := [tPow10 3, tDb64 8]) (.inl rfl) rfl (hr3 Tryd.results13 (rvc (p := pa [pt (0 : Int), pt ([] : Str), p1 (.slice none 0 0), pt (⟨0⟩ : F64), pt (⟨0⟩ : F64), pt (0 : UInt64), pt (zarr : (Arr UInt8 32))]) 0 rfl rfl rfl ty30) (rvt (v := (.int _ _)) rfl) (rvt (v := (.int _ _)) rfl)) [] [0, 1, 2] [] [_, _, _] [] _ rfl rfl (by kernel_rfl) rfl impl_nil (.inr ⟨_, parse_react_f1 (by assumption) hnm26 htx27, rfl, rfl, rfl⟩)
            · refine ⟨trivial, ?_⟩
              refine fad rfl Tryd.underlying30 rfl ty23.sz ?_
              refine stp 1 5 _ (pt nn26) rfl rfl rfl rfl rfl rfl ty23 ⟨trivial, ?_⟩
              refine jt ?_
              refine c_reg ?_
              refine mv (.pointer _) rfl ?_
              refine cal (rdtext_bad b13 s na26 nq26 1 64) [2] [0, 1] [_, _] rfl rfl rfl (by kernel_rfl) impl_nil rfl ?_; rintro _ _ _ ⟨rfl, rfl, rfl⟩; refine ⟨trivial, ?_⟩
              refine fad rfl Tryd.underlying30 rfl ty9.sz ?_
              refine stp 1 1 _ (pt ([] : Str)) rfl rfl rfl rfl rfl rfl ty9 ⟨trivial, ?_⟩
              refine jn ?_
              refine e_in ?_
              refine e_then ?_
              refine c_seq ?_
              refine c_seq ?_
              refine c_reg ?_
              refine mv (.pointer _) rfl ?_
              refine nlc rfl ?_
              refine fad rfl Tryd.underlying66 rfl ty3.sz ?_
              refine ldp 2 2 _ rfl rfl rfl rfl ty3 ?_
              refine cmp false rfl rfl (by simp only [cmpV]; exact congrArg some (decide_eq_false (by omega))) ?_
              refine mv (.bool _) rfl ?_
              refine g_off rfl rfl rfl rfl ?_
              refine g_off rfl rfl rfl rfl ?_
              refine g_off rfl rfl rfl rfl ?_
              refine g_off rfl rfl rfl rfl ?_
              refine g_off rfl rfl rfl rfl ?_
              refine g_off rfl rfl rfl rfl ?_
              refine g_off rfl rfl rfl rfl ?_
              refine pkf (.bool _) rfl rfl ?_
              refine jt ?_
              refine c_false rfl ?_
              refine c_skip ?_
              refine e_then ?_
              refine c_seq ?_
              refine c_seq ?_
              refine c_reg ?_
              refine mv (.pointer _) rfl ?_
              refine nlc rfl ?_
              refine fad rfl Tryd.underlying66 rfl ty3.sz ?_
              refine ldp 2 2 _ rfl rfl rfl rfl ty3 ?_
              refine cmp true rfl rfl (by simp only [cmpV]; exact congrArg some (decide_eq_true (by omega))) ?_
              refine jt ?_
              refine c_true rfl ?_
              refine c_seq ?_
              refine c_dr [_, _, _, _] [] [(0, 0), (1, 0), (2, 0), (3, 0), (4, 0), (5, 1), (6, 0), (7, 0)] follows (by kernel_rfl) calm_body (keepS [1, 2, 3, 4] rfl) ?_
              refine bld [pt (0 : Int), pt ([] : Str), p1 (.slice none 0 0), pt (⟨0⟩ : F64), pt (⟨0⟩ : F64), pt (0 : UInt64), pt (zarr : (Arr UInt8 32))] [] _ Tryd.underlying30 (lay30 _ Tryd.underlying30) z30 rfl rfl rfl ?_
              refine mv (.pointer _) rfl ?_
              refine nlc rfl ?_
              refine fad rfl Tryd.underlying66 rfl ty3.sz ?_
              refine ldp 1 2 _ rfl rfl rfl rfl ty3 ?_
              refine stw 0 _ [pt (0 : Int), pt ([] : Str), p1 (.slice none 0 0), pt (⟨0⟩ : F64), pt (⟨0⟩ : F64), pt (0 : UInt64), pt (zarr : (Arr UInt8 32))] rfl rfl rfl rfl ty30 ⟨keepI [1, 2, 3, 4] rfl, ?_⟩
              refine asg (.int _ _) rfl ?_
              refine asg (.int _ _) rfl ?_
              refine jt ?_
              refine c_ret ?_
              exact j_end (own0 := []) (ro0 := [tPow10 3, tDb64 8]) (.inl rfl) rfl (hr3 Tryd.results13 (rvc (p := pa [pt (0 : Int), pt ([] : Str), p1 (.slice none 0 0), pt (⟨0⟩ : F64), pt (⟨0⟩ : F64), pt (0 : UInt64), pt (zarr : (Arr UInt8 32))]) 0 rfl rfl rfl ty30) (rvt (v := (.int _ _)) rfl) (rvt (v := (.int _ _)) rfl)) [] [0, 1, 2] [] [_, _, _] [] _ rfl rfl (by kernel_rfl) rfl impl_nil (.inr ⟨_, parse_react_f0 (by assumption) hnm26, rfl, rfl, rfl⟩)
          · replace h18 := of_decide_eq_false h18
            refine c_seq ?_
            refine c_reg ?_
            refine scmp (a := (word s 0)) (b := ([116, 105, 109, 101, 114] : Str)) _ rfl rfl Tryd.underlying9 rfl ?_
            refine asg (.bool _) rfl ?_
            refine jt ?_
            refine c_cond rfl (fun h20 => ?_) (fun h20 => ?_)
            · replace h20 := of_decide_eq_true h20
              refine c_seq ?_
              refine c_reg ?_
              refine fad rfl Tryd.underlying30 rfl ty3.sz ?_
              refine stp 2 0 _ (pt (5 : Int)) rfl rfl rfl rfl rfl rfl ty3 ⟨trivial, ?_⟩
              refine jt ?_
              refine c_reg ?_
              refine mv (.pointer _) rfl ?_
              refine cal (rdnum_ct b13 s ((word s 0).length) (by omega) (by omega) (31536000 : UInt64) (by decide)) [1] [0, 2] [_, _] rfl rfl rfl (by kernel_rfl) (impl_cons (impl_at 0 rfl) impl_nil) rfl ?_; rintro _ _ _ (⟨nn29, nq29, hnm29, rfl, rfl, rfl⟩ | ⟨nn29, nq29, na29, hnm29, rfl, rfl, rfl⟩)
              · have hnm29b := numR_next hnm29; refine ⟨trivial, ?_⟩
                refine fad rfl Tryd.underlying30 rfl ty23.sz ?_
                refine stp 1 5 _ (pt nn29) rfl rfl rfl rfl rfl rfl ty23 ⟨trivial, ?_⟩
                refine jn ?_
                refine e_in ?_
                refine e_then ?_
                refine c_seq ?_
                refine c_seq ?_
                refine c_reg ?_
                refine mv (.pointer _) rfl ?_
                refine nlc rfl ?_
                refine fad rfl Tryd.underlying66 rfl ty3.sz ?_
                refine ldp 2 2 _ rfl rfl rfl rfl ty3 ?_
                refine cmp true rfl rfl rfl ?_
                refine mv (.bool _) rfl ?_
                refine g_on rfl rfl rfl ?_
                refine mv (.pointer _) rfl ?_
                refine g_on rfl rfl rfl ?_
                refine nlc rfl ?_
                refine g_on rfl rfl rfl ?_
                refine fad rfl Tryd.underlying66 rfl ty3.sz ?_
                refine g_on rfl rfl rfl ?_
                refine ldp 2 1 _ rfl rfl rfl rfl ty3 ?_
                refine g_on rfl rfl rfl ?_
                refine mv (.string _) rfl ?_
                refine g_on rfl rfl rfl ?_
                refine lenT (s := s) rfl Tryd.underlying9 ?_
                refine g_on rfl rfl rfl ?_
                refine cmp _ rfl rfl rfl ?_
                refine pkt (.bool _) rfl rfl ?_
                refine jt ?_
                refine c_cond rfl (fun h21 => ?_) (fun h21 => ?_)
                · replace h21 := ndt h21
                  refine c_reg ?_
                  refine mv (.pointer _) rfl ?_
                  refine mv (.pointer _) rfl ?_
                  refine nlc rfl ?_
                  refine fad rfl Tryd.underlying66 rfl ty3.sz ?_
                  refine ldp 2 1 _ rfl rfl rfl rfl ty3 ?_
                  refine nlc rfl ?_
                  refine fad rfl Tryd.underlying66 rfl ty3.sz ?_
                  refine stp 2 2 _ (p1 (.int .i64 ((nq29 : Nat) : Int))) rfl rfl rfl rfl rfl rfl ty3 ⟨trivial, ?_⟩
                  refine jt ?_
                  refine c_seq ?_
                  refine c_seq ?_
                  refine c_reg ?_
                  refine mv (.pointer _) rfl ?_
                  refine nlc rfl ?_
                  refine fad rfl Tryd.underlying66 rfl ty3.sz ?_
                  refine ldp 2 2 _ rfl rfl rfl rfl ty3 ?_
                  refine cmp true rfl rfl (by simp only [cmpV]; exact congrArg some (decide_eq_true (by omega))) ?_
                  refine jt ?_
                  refine c_true rfl ?_
                  refine c_seq ?_
                  refine c_dr [_, _, _, _] [] [(0, 0), (1, 0), (2, 0), (3, 0), (4, 0), (5, 1), (6, 0), (7, 0)] follows (by kernel_rfl) calm_body (keepS [1, 2, 3, 4] rfl) ?_
                  refine bld [pt (0 : Int), pt ([] : Str), p1 (.slice none 0 0), pt (⟨0⟩ : F64), pt (⟨0⟩ : F64), pt (0 : UInt64), pt (zarr : (Arr UInt8 32))] [] _ Tryd.underlying30 (lay30 _ Tryd.underlying30) z30 rfl rfl rfl ?_
                  refine mv (.pointer _) rfl ?_
                  refine nlc rfl ?_
                  refine fad rfl Tryd.underlying66 rfl ty3.sz ?_
                  refine ldp 1 2 _ rfl rfl rfl rfl ty3 ?_
                  refine stw 0 _ [pt (0 : Int), pt ([] : Str), p1 (.slice none 0 0), pt (⟨0⟩ : F64), pt (⟨0⟩ : F64), pt (0 : UInt64), pt (zarr : (Arr UInt8 32))] rfl rfl rfl rfl ty30 ⟨keepI [1, 2, 3, 4] rfl, ?_⟩
                  refine asg (.int _ _) rfl ?_
                  refine asg (.int _ _) rfl ?_
                  refine jt ?_
                  refine c_ret ?_
                  exact j_end (own0 := []) (ro0 := [tPow10 3, tDb64 8]) (.inl rfl) rfl (hr3 Tryd.results13 (rvc (p := pa [pt (0 : Int), pt ([] : Str), p1 (.slice none 0 0), pt (⟨0⟩ : F64), pt (⟨0⟩ : F64), pt (0 : UInt64), pt (zarr : (Arr UInt8 32))]) 0 rfl rfl rfl ty30) (rvt (v := (.int _ _)) rfl) (rvt (v := (.int _ _)) rfl)) [] [0, 1, 2] [] [_, _, _] [] _ rfl rfl (by kernel_rfl) rfl impl_nil (.inr ⟨_, parse_timer_e (by assumption) hnm29 (by omega), rfl, rfl, rfl⟩)
                · replace h21 := ndf h21
                  refine c_skip ?_
                  refine e_then ?_
                  refine c_seq ?_
                  refine c_seq ?_
                  refine c_reg ?_
                  refine mv (.pointer _) rfl ?_
                  refine nlc rfl ?_
                  refine fad rfl Tryd.underlying66 rfl ty3.sz ?_
                  refine ldp 2 2 _ rfl rfl rfl rfl ty3 ?_
                  refine cmp false rfl rfl rfl ?_
                  refine jt ?_
                  refine c_false rfl ?_
                  refine c_skip ?_
                  refine e_then ?_
                  refine c_seq ?_
                  refine c_reg ?_
                  refine ldw 1 _ rfl rfl ty30 ?_
                  refine stw 0 _ [pt (5 : Int), pt ([] : Str), p1 (.slice none 0 0), pt (⟨0⟩ : F64), pt (⟨0⟩ : F64), pt nn29, pt (zarr : (Arr UInt8 32))] rfl rfl rfl rfl ty30 ⟨trivial, ?_⟩
                  refine asg (.int _ _) rfl ?_
                  refine asg (.int _ _) rfl ?_
                  refine jt ?_
                  refine c_ret ?_
                  refine e_addE ?_
                  exact j_end (own0 := []) (ro0 := [tPow10 3, tDb64 8]) (.inl rfl) rfl (hr3 Tryd.results13 (rvc (p := pa [pt (5 : Int), pt ([] : Str), p1 (.slice none 0 0), pt (⟨0⟩ : F64), pt (⟨0⟩ : F64), pt nn29, pt (zarr : (Arr UInt8 32))]) 0 rfl rfl rfl ty30) (rvt (v := (.int _ _)) rfl) (rvt (v := (.int _ _)) rfl)) [3] [0, 1, 2] [_] [_, _, _] [] _ rfl rfl (by kernel_rfl) rfl impl_nil (.inl ⟨(⟨(5 : Int), ([] : Str), (⟨0⟩ : F64), (⟨0⟩ : F64), nn29, (zarr : (Arr UInt8 32))⟩ : Con), [], Ow.nil, _, (by have h := parse_timer (by assumption) hnm29 (by omega); rw [UInt64.ofNat_toNat] at h; exact h), by simp, Ow.nil_ok, rfl, rfl, rfl⟩)
              · refine ⟨trivial, ?_⟩
                refine fad rfl Tryd.underlying30 rfl ty23.sz ?_
                refine stp 1 5 _ (pt nn29) rfl rfl rfl rfl rfl rfl ty23 ⟨trivial, ?_⟩
                refine jn ?_
                refine e_in ?_
                refine e_then ?_
                refine c_seq ?_
                refine c_seq ?_
                refine c_reg ?_
                refine mv (.pointer _) rfl ?_
                refine nlc rfl ?_
                refine fad rfl Tryd.underlying66 rfl ty3.sz ?_
                refine ldp 2 2 _ rfl rfl rfl rfl ty3 ?_
                refine cmp false rfl rfl (by simp only [cmpV]; exact congrArg some (decide_eq_false (by omega))) ?_
                refine mv (.bool _) rfl ?_
                refine g_off rfl rfl rfl rfl ?_
                refine g_off rfl rfl rfl rfl ?_
                refine g_off rfl rfl rfl rfl ?_
                refine g_off rfl rfl rfl rfl ?_
                refine g_off rfl rfl rfl rfl ?_
                refine g_off rfl rfl rfl rfl ?_
                refine g_off rfl rfl rfl rfl ?_
                refine pkf (.bool _) rfl rfl ?_
                refine jt ?_
                refine c_false rfl ?_
                refine c_skip ?_
                refine e_then ?_
                refine c_seq ?_
                refine c_seq ?_
                refine c_reg ?_
                refine mv (.pointer _) rfl ?_
                refine nlc rfl ?_
                refine fad rfl Tryd.underlying66 rfl ty3.sz ?_
                refine ldp 2 2 _ rfl rfl rfl rfl ty3 ?_
                refine cmp true rfl rfl (by simp only [cmpV]; exact congrArg some (decide_eq_true (by omega))) ?_
                refine jt ?_
                refine c_true rfl ?_
                refine c_seq ?_
                refine c_dr [_, _, _, _] [] [(0, 0), (1, 0), (2, 0), (3, 0), (4, 0), (5, 1), (6, 0), (7, 0)] follows (by kernel_rfl) calm_body (keepS [1, 2, 3, 4] rfl) ?_
                refine bld [pt (0 : Int), pt ([] : Str), p1 (.slice none 0 0), pt (⟨0⟩ : F64), pt (⟨0⟩ : F64), pt (0 : UInt64), pt (zarr : (Arr UInt8 32))] [] _ Tryd.underlying30 (lay30 _ Tryd.underlying30) z30 rfl rfl rfl ?_
                refine mv (.pointer _) rfl ?_
                refine nlc rfl ?_
                refine fad rfl Tryd.underlying66 rfl ty3.sz ?_
                refine ldp 1 2 _ rfl rfl rfl rfl ty3 ?_
                refine stw 0 _ [pt (0 : Int), pt ([] : Str), p1 (.slice none 0 0), pt (⟨0⟩ : F64), pt (⟨0⟩ : F64), pt (0 : UInt64), pt (zarr : (Arr UInt8 32))] rfl rfl rfl rfl ty30 ⟨keepI [1, 2, 3, 4] rfl, ?_⟩
                refine asg (.int _ _) rfl ?_
                refine asg (.int _ _) rfl ?_
                refine jt ?_
                refine c_ret ?_
                exact j_end (own0 := []) (ro0 := [tPow10 3, tDb64 8]) (.inl rfl) rfl (hr3 Tryd.results13 (rvc (p := pa [pt (0 : Int), pt ([] : Str), p1 (.slice none 0 0), pt (⟨0⟩ : F64), pt (⟨0⟩ : F64), pt (0 : UInt64), pt (zarr : (Arr UInt8 32))]) 0 rfl rfl rfl ty30) (rvt (v := (.int _ _)) rfl) (rvt (v := (.int _ _)) rfl)) [] [0, 1, 2] [] [_, _, _] [] _ rfl rfl (by kernel_rfl) rfl impl_nil (.inr ⟨_, parse_timer_f0 (by assumption) hnm29, rfl, rfl, rfl⟩)
            · replace h20 := of_decide_eq_false h20
              refine c_seq ?_
              refine c_reg ?_
              refine scmp (a := (word s 0)) (b := ([102, 105, 108, 101] : Str)) _ rfl rfl Tryd.underlying9 rfl ?_
              refine asg (.bool _) rfl ?_
              refine jt ?_
              refine c_cond rfl (fun h22 => ?_) (fun h22 => ?_)
              · replace h22 := of_decide_eq_true h22
                refine c_seq ?_
                refine c_reg ?_
                refine fad rfl Tryd.underlying30 rfl ty3.sz ?_
                refine stp 2 0 _ (pt (6 : Int)) rfl rfl rfl rfl rfl rfl ty3 ⟨trivial, ?_⟩
                refine jt ?_
                refine c_seq ?_
                refine c_reg ?_
                refine mv (.pointer _) rfl ?_
                refine cal (rdtext_ct b13 s ((word s 0).length) (by omega) (by omega) 1 255 (by omega) (by omega)) [1] [0, 2] [_, _] rfl rfl rfl (by kernel_rfl) (impl_cons (impl_at 1 rfl) impl_nil) rfl ?_; rintro _ _ _ (⟨tt30, tq30, htx30, rfl, rfl, rfl⟩ | ⟨tt30, tq30, ta30, htx30, rfl, rfl, rfl⟩)
                · have htx30b := textR_next htx30; refine ⟨trivial, ?_⟩
                  refine fad rfl Tryd.underlying30 rfl ty9.sz ?_
                  refine stp 1 1 _ (pt tt30) rfl rfl rfl rfl rfl rfl ty9 ⟨trivial, ?_⟩
                  refine jt ?_
                  refine c_seq ?_
                  refine c_reg ?_
                  refine mv (.pointer _) rfl ?_
                  refine cal (rdnum_ct b13 s tq30 (by omega) (by omega) (1099511627776 : UInt64) (by decide)) [2] [0, 1] [_, _] rfl rfl rfl (by kernel_rfl) (impl_cons (impl_at 0 rfl) impl_nil) rfl ?_; rintro _ _ _ (⟨nn31, nq31, hnm31, rfl, rfl, rfl⟩ | ⟨nn31, nq31, na31, hnm31, rfl, rfl, rfl⟩)
                  · have hnm31b := numR_next hnm31; refine ⟨trivial, ?_⟩
                    refine fad rfl Tryd.underlying30 rfl ty23.sz ?_
                    refine stp 1 5 _ (pt nn31) rfl rfl rfl rfl rfl rfl ty23 ⟨trivial, ?_⟩
                    refine jt ?_
                    refine c_reg ?_
                    refine mv (.pointer _) rfl ?_
                    refine cal (rdkey_ct b13 s nq31 (by omega) (by omega)) [2] [0, 1] [_, _] rfl rfl rfl (by kernel_rfl) impl_nil rfl ?_; rintro _ _ _ (⟨_, kq32, ⟨kw32, hby32, rfl⟩, rfl, rfl, rfl⟩ | ⟨kk32, kq32, ka32, hby32, rfl, rfl, rfl⟩)
                    · have hby32b := hexR_next hby32; refine ⟨trivial, ?_⟩
                      refine fad rfl Tryd.underlying30 rfl ty25.sz ?_
                      refine stp 1 6 _ (pt (mkKey (hexb kw32 32))) rfl rfl rfl rfl rfl rfl ty25 ⟨trivial, ?_⟩
                      refine jn ?_
                      refine e_in ?_
                      refine e_then ?_
                      refine c_seq ?_
                      refine c_seq ?_
                      refine c_reg ?_
                      refine mv (.pointer _) rfl ?_
                      refine nlc rfl ?_
                      refine fad rfl Tryd.underlying66 rfl ty3.sz ?_
                      refine ldp 2 2 _ rfl rfl rfl rfl ty3 ?_
                      refine cmp true rfl rfl rfl ?_
                      refine mv (.bool _) rfl ?_
                      refine g_on rfl rfl rfl ?_
                      refine mv (.pointer _) rfl ?_
                      refine g_on rfl rfl rfl ?_
                      refine nlc rfl ?_
                      refine g_on rfl rfl rfl ?_
                      refine fad rfl Tryd.underlying66 rfl ty3.sz ?_
                      refine g_on rfl rfl rfl ?_
                      refine ldp 2 1 _ rfl rfl rfl rfl ty3 ?_
                      refine g_on rfl rfl rfl ?_
                      refine mv (.string _) rfl ?_
                      refine g_on rfl rfl rfl ?_
                      refine lenT (s := s) rfl Tryd.underlying9 ?_
                      refine g_on rfl rfl rfl ?_
                      refine cmp _ rfl rfl rfl ?_
                      refine pkt (.bool _) rfl rfl ?_
                      refine jt ?_
                      refine c_cond rfl (fun h23 => ?_) (fun h23 => ?_)
                      · replace h23 := ndt h23
                        refine c_reg ?_
                        refine mv (.pointer _) rfl ?_
                        refine mv (.pointer _) rfl ?_
                        refine nlc rfl ?_
                        refine fad rfl Tryd.underlying66 rfl ty3.sz ?_
                        refine ldp 2 1 _ rfl rfl rfl rfl ty3 ?_
                        refine nlc rfl ?_
                        refine fad rfl Tryd.underlying66 rfl ty3.sz ?_
                        refine stp 2 2 _ (p1 (.int .i64 ((kq32 : Nat) : Int))) rfl rfl rfl rfl rfl rfl ty3 ⟨trivial, ?_⟩
                        refine jt ?_
                        refine c_seq ?_
                        refine c_seq ?_
                        refine c_reg ?_
                        refine mv (.pointer _) rfl ?_
                        refine nlc rfl ?_
                        refine fad rfl Tryd.underlying66 rfl ty3.sz ?_
                        refine ldp 2 2 _ rfl rfl rfl rfl ty3 ?_
                        refine cmp true rfl rfl (by simp only [cmpV]; exact congrArg some (decide_eq_true (by omega))) ?_
                        refine jt ?_
                        refine c_true rfl ?_
                        refine c_seq ?_
                        refine c_dr [_, _, _, _] [] [(0, 0), (1, 0), (2, 0), (3, 0), (4, 0), (5, 1), (6, 0), (7, 0)] follows (by kernel_rfl) calm_body (keepS [1, 2, 3, 4] rfl) ?_
                        refine bld [pt (0 : Int), pt ([] : Str), p1 (.slice none 0 0), pt (⟨0⟩ : F64), pt (⟨0⟩ : F64), pt (0 : UInt64), pt (zarr : (Arr UInt8 32))] [] _ Tryd.underlying30 (lay30 _ Tryd.underlying30) z30 rfl rfl rfl ?_
                        refine mv (.pointer _) rfl ?_
                        refine nlc rfl ?_
                        refine fad rfl Tryd.underlying66 rfl ty3.sz ?_
                        refine ldp 1 2 _ rfl rfl rfl rfl ty3 ?_
                        refine stw 0 _ [pt (0 : Int), pt ([] : Str), p1 (.slice none 0 0), pt (⟨0⟩ : F64), pt (⟨0⟩ : F64), pt (0 : UInt64), pt (zarr : (Arr UInt8 32))] rfl rfl rfl rfl ty30 ⟨keepI [1, 2, 3, 4] rfl, ?_⟩
                        refine asg (.int _ _) rfl ?_
                        refine asg (.int _ _) rfl ?_
                        refine jt ?_
                        refine c_ret ?_
                        exact j_end (own0 := []) (ro0 := [tPow10 3, tDb64 8]) (.inl rfl) rfl (hr3 Tryd.results13 (rvc (p := pa [pt (0 : Int), pt ([] : Str), p1 (.slice none 0 0), pt (⟨0⟩ : F64), pt (⟨0⟩ : F64), pt (0 : UInt64), pt (zarr : (Arr UInt8 32))]) 0 rfl rfl rfl ty30) (rvt (v := (.int _ _)) rfl) (rvt (v := (.int _ _)) rfl)) [] [0, 1, 2] [] [_, _, _] [] _ rfl rfl (by kernel_rfl) rfl impl_nil (.inr ⟨_, parse_file_e (by assumption) htx30 hnm31 hby32 (by omega), rfl, rfl, rfl⟩)
                      · replace h23 := ndf h23
                        refine c_skip ?_
                        refine e_then ?_
                        refine c_seq ?_
                        refine c_seq ?_
                        refine c_reg ?_
                        refine mv (.pointer _) rfl ?_
                        refine nlc rfl ?_
                        refine fad rfl Tryd.underlying66 rfl ty3.sz ?_
                        refine ldp 2 2 _ rfl rfl rfl rfl ty3 ?_
                        refine cmp false rfl rfl rfl ?_
                        refine jt ?_
                        refine c_false rfl ?_
                        refine c_skip ?_
                        refine e_then ?_
                        refine c_seq ?_
                        refine c_reg ?_
                        refine ldw 1 _ rfl rfl ty30 ?_
                        refine stw 0 _ [pt (6 : Int), pt tt30, p1 (.slice none 0 0), pt (⟨0⟩ : F64), pt (⟨0⟩ : F64), pt nn31, pt (mkKey (hexb kw32 32))] rfl rfl rfl rfl ty30 ⟨trivial, ?_⟩
                        refine asg (.int _ _) rfl ?_
                        refine asg (.int _ _) rfl ?_
                        refine jt ?_
                        refine c_ret ?_
                        refine e_addE ?_
                        exact j_end (own0 := []) (ro0 := [tPow10 3, tDb64 8]) (.inl rfl) rfl (hr3 Tryd.results13 (rvc (p := pa [pt (6 : Int), pt tt30, p1 (.slice none 0 0), pt (⟨0⟩ : F64), pt (⟨0⟩ : F64), pt nn31, pt (mkKey (hexb kw32 32))]) 0 rfl rfl rfl ty30) (rvt (v := (.int _ _)) rfl) (rvt (v := (.int _ _)) rfl)) [3] [0, 1, 2] [_] [_, _, _] [] _ rfl rfl (by kernel_rfl) rfl impl_nil (.inl ⟨(⟨(6 : Int), tt30, (⟨0⟩ : F64), (⟨0⟩ : F64), nn31, (mkKey (hexb kw32 32))⟩ : Con), [], Ow.nil, _, (by have h := parse_file (by assumption) htx30 hnm31 hby32 (by omega); rw [UInt64.ofNat_toNat] at h; exact h), by simp, Ow.nil_ok, rfl, rfl, rfl⟩)
                    · refine ⟨trivial, ?_⟩
                      refine fad rfl Tryd.underlying30 rfl ty25.sz ?_
                      refine stp 1 6 _ (pt kk32) rfl rfl rfl rfl rfl rfl ty25 ⟨trivial, ?_⟩
                      refine jn ?_
                      refine e_in ?_
                      refine e_then ?_
                      refine c_seq ?_
                      refine c_seq ?_
                      refine c_reg ?_
                      refine mv (.pointer _) rfl ?_
                      refine nlc rfl ?_
                      refine fad rfl Tryd.underlying66 rfl ty3.sz ?_
                      refine ldp 2 2 _ rfl rfl rfl rfl ty3 ?_
                      refine cmp false rfl rfl (by simp only [cmpV]; exact congrArg some (decide_eq_false (by omega))) ?_
                      refine mv (.bool _) rfl ?_
                      refine g_off rfl rfl rfl rfl ?_
                      refine g_off rfl rfl rfl rfl ?_
                      refine g_off rfl rfl rfl rfl ?_
                      refine g_off rfl rfl rfl rfl ?_
                      refine g_off rfl rfl rfl rfl ?_
                      refine g_off rfl rfl rfl rfl ?_
                      refine g_off rfl rfl rfl rfl ?_
                      refine pkf (.bool _) rfl rfl ?_
                      refine jt ?_
                      refine c_false rfl ?_
                      refine c_skip ?_
                      refine e_then ?_
                      refine c_seq ?_
                      refine c_seq ?_
                      refine c_reg ?_
                      refine mv (.pointer _) rfl ?_
                      refine nlc rfl ?_
                      refine fad rfl Tryd.underlying66 rfl ty3.sz ?_
                      refine ldp 2 2 _ rfl rfl rfl rfl ty3 ?_
                      refine cmp true rfl rfl (by simp only [cmpV]; exact congrArg some (decide_eq_true (by omega))) ?_
                      refine jt ?_
                      refine c_true rfl ?_
                      refine c_seq ?_
                      refine c_dr [_, _, _, _] [] [(0, 0), (1, 0), (2, 0), (3, 0), (4, 0), (5, 1), (6, 0), (7, 0)] follows (by kernel_rfl) calm_body (keepS [1, 2, 3, 4] rfl) ?_
                      refine bld [pt (0 : Int), pt ([] : Str), p1 (.slice none 0 0), pt (⟨0⟩ : F64), pt (⟨0⟩ : F64), pt (0 : UInt64), pt (zarr : (Arr UInt8 32))] [] _ Tryd.underlying30 (lay30 _ Tryd.underlying30) z30 rfl rfl rfl ?_
                      refine mv (.pointer _) rfl ?_
                      refine nlc rfl ?_
                      refine fad rfl Tryd.underlying66 rfl ty3.sz ?_
                      refine ldp 1 2 _ rfl rfl rfl rfl ty3 ?_
                      refine stw 0 _ [pt (0 : Int), pt ([] : Str), p1 (.slice none 0 0), pt (⟨0⟩ : F64), pt (⟨0⟩ : F64), pt (0 : UInt64), pt (zarr : (Arr UInt8 32))] rfl rfl rfl rfl ty30 ⟨keepI [1, 2, 3, 4] rfl, ?_⟩
                      refine asg (.int _ _) rfl ?_
                      refine asg (.int _ _) rfl ?_
                      refine jt ?_
                      refine c_ret ?_
                      exact j_end (own0 := []) (ro0 := [tPow10 3, tDb64 8]) (.inl rfl) rfl (hr3 Tryd.results13 (rvc (p := pa [pt (0 : Int), pt ([] : Str), p1 (.slice none 0 0), pt (⟨0⟩ : F64), pt (⟨0⟩ : F64), pt (0 : UInt64), pt (zarr : (Arr UInt8 32))]) 0 rfl rfl rfl ty30) (rvt (v := (.int _ _)) rfl) (rvt (v := (.int _ _)) rfl)) [] [0, 1, 2] [] [_, _, _] [] _ rfl rfl (by kernel_rfl) rfl impl_nil (.inr ⟨_, parse_file_f2 (by assumption) htx30 hnm31 hby32, rfl, rfl, rfl⟩)
                  · refine ⟨trivial, ?_⟩
                    refine fad rfl Tryd.underlying30 rfl ty23.sz ?_
                    refine stp 1 5 _ (pt nn31) rfl rfl rfl rfl rfl rfl ty23 ⟨trivial, ?_⟩
                    refine jt ?_
                    refine c_reg ?_
                    refine mv (.pointer _) rfl ?_
                    refine cal (rdkey_bad b13 s na31 nq31) [2] [0, 1] [_, _] rfl rfl rfl (by kernel_rfl) impl_nil rfl ?_; rintro _ _ _ ⟨rfl, rfl, rfl⟩; refine ⟨trivial, ?_⟩
                    refine fad rfl Tryd.underlying30 rfl ty25.sz ?_
                    refine stp 1 6 _ (pt (zarr : Key)) rfl rfl rfl rfl rfl rfl ty25 ⟨trivial, ?_⟩
                    refine jn ?_
                    refine e_in ?_
                    refine e_then ?_
                    refine c_seq ?_
                    refine c_seq ?_
                    refine c_reg ?_
                    refine mv (.pointer _) rfl ?_
                    refine nlc rfl ?_
                    refine fad rfl Tryd.underlying66 rfl ty3.sz ?_
                    refine ldp 2 2 _ rfl rfl rfl rfl ty3 ?_
                    refine cmp false rfl rfl (by simp only [cmpV]; exact congrArg some (decide_eq_false (by omega))) ?_
                    refine mv (.bool _) rfl ?_
                    refine g_off rfl rfl rfl rfl ?_
                    refine g_off rfl rfl rfl rfl ?_
                    refine g_off rfl rfl rfl rfl ?_
                    refine g_off rfl rfl rfl rfl ?_
                    refine g_off rfl rfl rfl rfl ?_
                    refine g_off rfl rfl rfl rfl ?_
                    refine g_off rfl rfl rfl rfl ?_
                    refine pkf (.bool _) rfl rfl ?_
                    refine jt ?_
                    refine c_false rfl ?_
                    refine c_skip ?_
                    refine e_then ?_
                    refine c_seq ?_
                    refine c_seq ?_
                    refine c_reg ?_
                    refine mv (.pointer _) rfl ?_
                    refine nlc rfl ?_
                    refine fad rfl Tryd.underlying66 rfl ty3.sz ?_
                    refine ldp 2 2 _ rfl rfl rfl rfl ty3 ?_
                    refine cmp true rfl rfl (by simp only [cmpV]; exact congrArg some (decide_eq_true (by omega))) ?_
                    refine jt ?_
                    refine c_true rfl ?_
                    refine c_seq ?_
                    refine c_dr [_, _, _, _] [] [(0, 0), (1, 0), (2, 0), (3, 0), (4, 0), (5, 1), (6, 0), (7, 0)] follows (by kernel_rfl) calm_body (keepS [1, 2, 3, 4] rfl) ?_
                    refine bld [pt (0 : Int), pt ([] : Str), p1 (.slice none 0 0), pt (⟨0⟩ : F64), pt (⟨0⟩ : F64), pt (0 : UInt64), pt (zarr : (Arr UInt8 32))] [] _ Tryd.underlying30 (lay30 _ Tryd.underlying30) z30 rfl rfl rfl ?_
                    refine mv (.pointer _) rfl ?_
                    refine nlc rfl ?_
                    refine fad rfl Tryd.underlying66 rfl ty3.sz ?_
                    refine ldp 1 2 _ rfl rfl rfl rfl ty3 ?_
                    refine stw 0 _ [pt (0 : Int), pt ([] : Str), p1 (.slice none 0 0), pt (⟨0⟩ : F64), pt (⟨0⟩ : F64), pt (0 : UInt64), pt (zarr : (Arr UInt8 32))] rfl rfl rfl rfl ty30 ⟨keepI [1, 2, 3, 4] rfl, ?_⟩
                    refine asg (.int _ _) rfl ?_
                    refine asg (.int _ _) rfl ?_
                    refine jt ?_
                    refine c_ret ?_
                    exact j_end (own0 := []) (ro0 := [tPow10 3, tDb64 8]) (.inl rfl) rfl (hr3 Tryd.results13 (rvc (p := pa [pt (0 : Int), pt ([] : Str), p1 (.slice none 0 0), pt (⟨0⟩ : F64), pt (⟨0⟩ : F64), pt (0 : UInt64), pt (zarr : (Arr UInt8 32))]) 0 rfl rfl rfl ty30) (rvt (v := (.int _ _)) rfl) (rvt (v := (.int _ _)) rfl)) [] [0, 1, 2] [] [_, _, _] [] _ rfl rfl (by kernel_rfl) rfl impl_nil (.inr ⟨_, parse_file_f1 (by assumption) htx30 hnm31, rfl, rfl, rfl⟩)
                · refine ⟨trivial, ?_⟩
                  refine fad rfl Tryd.underlying30 rfl ty9.sz ?_
                  refine stp 1 1 _ (pt tt30) rfl rfl rfl rfl rfl rfl ty9 ⟨trivial, ?_⟩
                  refine jt ?_
                  refine c_seq ?_
                  refine c_reg ?_
                  refine mv (.pointer _) rfl ?_
                  refine cal (rdnum_bad b13 s ta30 tq30 (1099511627776 : UInt64)) [2] [0, 1] [_, _] rfl rfl rfl (by kernel_rfl) impl_nil rfl ?_; rintro _ _ _ ⟨rfl, rfl, rfl⟩; refine ⟨trivial, ?_⟩
                  refine fad rfl Tryd.underlying30 rfl ty23.sz ?_
                  refine stp 1 5 _ (pt (0 : UInt64)) rfl rfl rfl rfl rfl rfl ty23 ⟨trivial, ?_⟩
                  refine jt ?_
                  refine c_reg ?_
                  refine mv (.pointer _) rfl ?_
                  refine cal (rdkey_bad b13 s ta30 tq30) [2] [0, 1] [_, _] rfl rfl rfl (by kernel_rfl) impl_nil rfl ?_; rintro _ _ _ ⟨rfl, rfl, rfl⟩; refine ⟨trivial, ?_⟩
                  refine fad rfl Tryd.underlying30 rfl ty25.sz ?_
                  refine stp 1 6 _ (pt (zarr : Key)) rfl rfl rfl rfl rfl rfl ty25 ⟨trivial, ?_⟩
                  refine jn ?_
                  refine e_in ?_
                  refine e_then ?_
                  refine c_seq ?_
                  refine c_seq ?_
                  refine c_reg ?_
                  refine mv (.pointer _) rfl ?_
                  refine nlc rfl ?_
                  refine fad rfl Tryd.underlying66 rfl ty3.sz ?_
                  refine ldp 2 2 _ rfl rfl rfl rfl ty3 ?_
                  refine cmp false rfl rfl (by simp only [cmpV]; exact congrArg some (decide_eq_false (by omega))) ?_
                  refine mv (.bool _) rfl ?_
                  refine g_off rfl rfl rfl rfl ?_
                  refine g_off rfl rfl rfl rfl ?_
                  refine g_off rfl rfl rfl rfl ?_
                  refine g_off rfl rfl rfl rfl ?_
                  refine g_off rfl rfl rfl rfl ?_
                  refine g_off rfl rfl rfl rfl ?_
                  refine g_off rfl rfl rfl rfl ?_
                  refine pkf (.bool _) rfl rfl ?_
                  refine jt ?_
                  refine c_false rfl ?_
                  refine c_skip ?_
                  refine e_then ?_
                  refine c_seq ?_
                  refine c_seq ?_
                  refine c_reg ?_
                  refine mv (.pointer _) rfl ?_
                  refine nlc rfl ?_
                  refine fad rfl Tryd.underlying66 rfl ty3.sz ?_
                  refine ldp 2 2 _ rfl rfl rfl rfl ty3 ?_
                  refine cmp true rfl rfl (by simp only [cmpV]; exact congrArg some (decide_eq_true (by omega))) ?_
                  refine jt ?_
                  refine c_true rfl ?_
                  refine c_seq ?_
                  refine c_dr [_, _, _, _] [] [(0, 0), (1, 0), (2, 0), (3, 0), (4, 0), (5, 1), (6, 0), (7, 0)] follows (by kernel_rfl) calm_body (keepS [1, 2, 3, 4] rfl) ?_
                  refine bld [pt (0 : Int), pt ([] : Str), p1 (.slice none 0 0), pt (⟨0⟩ : F64), pt (⟨0⟩ : F64), pt (0 : UInt64), pt (zarr : (Arr UInt8 32))] [] _ Tryd.underlying30 (lay30 _ Tryd.underlying30) z30 rfl rfl rfl ?_
                  refine mv (.pointer _) rfl ?_
                  refine nlc rfl ?_
                  refine fad rfl Tryd.underlying66 rfl ty3.sz ?_
                  refine ldp 1 2 _ rfl rfl rfl rfl ty3 ?_
                  refine stw 0 _ [pt (0 : Int), pt ([] : Str), p1 (.slice none 0 0), pt (⟨0⟩ : F64), pt (⟨0⟩ : F64), pt (0 : UInt64), pt (zarr : (Arr UInt8 32))] rfl rfl rfl rfl ty30 ⟨keepI [1, 2, 3, 4] rfl, ?_⟩
                  refine asg (.int _ _) rfl ?_
                  refine asg (.int _ _) rfl ?_
                  refine jt ?_
                  refine c_ret ?_
                  exact j_end (own0 := []) (ro0 := [tPow10 3, tDb64 8]) (.inl rfl) rfl (hr3 Tryd.results13 (rvc (p := pa [pt (0 : Int), pt ([] : Str), p1 (.slice none 0 0), pt (⟨0⟩ : F64), pt (⟨0⟩ : F64), pt (0 : UInt64), pt (zarr : (Arr UInt8 32))]) 0 rfl rfl rfl ty30) (rvt (v := (.int _ _)) rfl) (rvt (v := (.int _ _)) rfl)) [] [0, 1, 2] [] [_, _, _] [] _ rfl rfl (by kernel_rfl) rfl impl_nil (.inr ⟨_, parse_file_f0 (by assumption) htx30, rfl, rfl, rfl⟩)
              · replace h22 := of_decide_eq_false h22
                refine c_reg ?_
                refine mv (.pointer _) rfl ?_
                refine nlc rfl ?_
                refine fad rfl Tryd.underlying66 rfl ty3.sz ?_
                refine stp 1 2 _ (pt (0 : Int)) rfl rfl rfl rfl rfl rfl ty3 ⟨trivial, ?_⟩
                refine jn ?_
                refine e_in ?_
                refine e_then ?_
                refine c_seq ?_
                refine c_seq ?_
                refine c_reg ?_
                refine mv (.pointer _) rfl ?_
                refine nlc rfl ?_
                refine fad rfl Tryd.underlying66 rfl ty3.sz ?_
                refine ldp 1 2 _ rfl rfl rfl rfl ty3 ?_
                refine cmp false rfl rfl rfl ?_
                refine mv (.bool _) rfl ?_
                refine g_off rfl rfl rfl rfl ?_
                refine g_off rfl rfl rfl rfl ?_
                refine g_off rfl rfl rfl rfl ?_
                refine g_off rfl rfl rfl rfl ?_
                refine g_off rfl rfl rfl rfl ?_
                refine g_off rfl rfl rfl rfl ?_
                refine g_off rfl rfl rfl rfl ?_
                refine pkf (.bool _) rfl rfl ?_
                refine jt ?_
                refine c_false rfl ?_
                refine c_skip ?_
                refine e_then ?_
                refine c_seq ?_
                refine c_seq ?_
                refine c_reg ?_
                refine mv (.pointer _) rfl ?_
                refine nlc rfl ?_
                refine fad rfl Tryd.underlying66 rfl ty3.sz ?_
                refine ldp 1 2 _ rfl rfl rfl rfl ty3 ?_
                refine cmp true rfl rfl rfl ?_
                refine jt ?_
                refine c_true rfl ?_
                refine c_seq ?_
                refine c_dr [_, _, _, _] [] [(0, 0), (1, 0), (2, 0), (3, 0), (4, 0), (5, 1), (6, 0), (7, 0)] follows (by kernel_rfl) calm_body (keepS [1, 2, 3, 4] rfl) ?_
                refine bld [pt (0 : Int), pt ([] : Str), p1 (.slice none 0 0), pt (⟨0⟩ : F64), pt (⟨0⟩ : F64), pt (0 : UInt64), pt (zarr : (Arr UInt8 32))] [] _ Tryd.underlying30 (lay30 _ Tryd.underlying30) z30 rfl rfl rfl ?_
                refine mv (.pointer _) rfl ?_
                refine nlc rfl ?_
                refine fad rfl Tryd.underlying66 rfl ty3.sz ?_
                refine ldp 0 2 _ rfl rfl rfl rfl ty3 ?_
                refine stw 0 _ [pt (0 : Int), pt ([] : Str), p1 (.slice none 0 0), pt (⟨0⟩ : F64), pt (⟨0⟩ : F64), pt (0 : UInt64), pt (zarr : (Arr UInt8 32))] rfl rfl rfl rfl ty30 ⟨keepI [1, 2, 3, 4] rfl, ?_⟩
                refine asg (.int _ _) rfl ?_
                refine asg (.int _ _) rfl ?_
                refine jt ?_
                refine c_ret ?_
                exact j_end (own0 := []) (ro0 := [tPow10 3, tDb64 8]) (.inl rfl) rfl (hr3 Tryd.results13 (rvc (p := pa [pt (0 : Int), pt ([] : Str), p1 (.slice none 0 0), pt (⟨0⟩ : F64), pt (⟨0⟩ : F64), pt (0 : UInt64), pt (zarr : (Arr UInt8 32))]) 0 rfl rfl rfl ty30) (rvt (v := (.int _ _)) rfl) (rvt (v := (.int _ _)) rfl)) [] [0, 1, 2] [] [_, _, _] [] _ rfl rfl (by kernel_rfl) rfl impl_nil (.inr ⟨0, parse_none (by first | assumption | contradiction) (by first | assumption | contradiction) (by first | assumption | contradiction) (by first | assumption | contradiction) (by first | assumption | contradiction) (by first | assumption | contradiction) (by first | assumption | contradiction), rfl, rfl, rfl⟩)
end Go.Proofs.YthpbiamicidakaaDoor
namespace Go.Proofs.YthpbiamicidakaaDoor
open Go Go.Proofs Go.PW
open Go.PW.Enc (enc val)
theorem RParse_in (s : Str) (hs : s.length ≤ 140737488351232) {c : Con} {ms : List UInt32} {q : Nat} (h : parseR s = .inr ((c, ms), q)) : Ct Tryd.prog 13 [strV s] [] [tPow10 3, tDb64 8] (fun v w r => ∃ o : Ow, o.ok ms ∧ v = .tuple #[.agg ⟨cat [pt c.kind, pt c.text, p1 (.slice o.adr ms.length o.cap), pt c.lat, pt c.long, pt c.number, pt c.key]⟩, .int .i64 0, .int .i64 0] ∧ w = [o.seg ms 47] ∧ r = []) :=
  (RParse_ct s hs).mono fun v w r hh => by
    rcases hh with ⟨c', ms', o, q', h', h2, h3, h4, h5, h6⟩ | ⟨q', h', _⟩
    · cases h.symm.trans h'; exact ⟨o, h3, h4, h5, h6⟩
    · cases h.symm.trans h'
theorem RParse_no (s : Str) (hs : s.length ≤ 140737488351232) {q : Nat} (h : parseR s = .inl q) : Ct Tryd.prog 13 [strV s] [] [tPow10 3, tDb64 8] (fun v w r => v = .tuple #[.agg ⟨cat [pt (0 : Int), pt ([] : Str), p1 (.slice none 0 0), pt (⟨0⟩ : F64), pt (⟨0⟩ : F64), pt (0 : UInt64), pt (zarr : Key)]⟩, .int .i64 (q : Int), .int .i64 90] ∧ w = [] ∧ r = []) :=
  (RParse_ct s hs).mono fun v w r hh => by
    rcases hh with ⟨c', ms', o, q', h', _⟩ | ⟨q', h', h2, h3, h4⟩
    · cases h.symm.trans h'
    · cases h.symm.trans h'; exact ⟨h2, h3, h4⟩
set_option maxRecDepth 20000 in
set_option maxHeartbeats 4000000 in
theorem ContentParses_ct (s : Str) (hs : s.length ≤ 140737488351232) (eu : TypeId) (ev : Value) (ru : TypeId) (rv : Value) : Ct Tryd.prog 5 [strV s] [] [tPow10 3, tDb64 8, tIf 5 eu ev, tIf 6 ru rv] (fun v o r => v = .bool true ∧ o = [] ∧ r = []) := by
  refine ct_enter Tryd.func5 rfl Tryd.ntmps5 (by kernel_rfl) rfl fun w0 => ?_
  refine c_seq ?_
  refine c_reg ?_
  refine asg (.bool _) rfl ?_
  refine jt ?_
  refine c_seq ?_
  refine c_reg ?_
  refine mv (.string _) rfl ?_
  refine cal (Parse_ct s hs eu ev ru rv) [] [] [] rfl rfl rfl (by kernel_rfl) (impl_cons (impl_at 0 rfl) (impl_cons (impl_at 1 rfl) (impl_cons (impl_at 2 rfl) (impl_cons (impl_at 3 rfl) impl_nil)))) rfl ?_; rintro _ _ _ (⟨c, ms, oa, qa, hA, hms, hoa, rfl, rfl, rfl⟩ | ⟨qa, hB, rfl, rfl, rfl⟩)
  · refine ⟨trivial, ?_⟩
    refine mv (.tuple _) rfl ?_
    refine xtr (.agg _) rfl rfl ?_
    refine xtr (.int _ _) rfl rfl ?_
    refine xtr (.int _ _) rfl rfl ?_
    refine alo [pt (0 : Int), pt ([] : Str), p1 (.slice none 0 0), pt (⟨0⟩ : F64), pt (⟨0⟩ : F64), pt (0 : UInt64), pt (zarr : (Arr UInt8 32))] _ z30 rfl fun b3 => ⟨trivial, ?_⟩
    refine stw 1 _ [pt c.kind, pt c.text, p1 (.slice oa.adr ms.length oa.cap), pt c.lat, pt c.long, pt c.number, pt c.key] rfl rfl rfl rfl ty30 ⟨trivial, ?_⟩
    refine asg (.int _ _) rfl ?_
    refine asg (.int _ _) rfl ?_
    refine jt ?_
    refine c_seq ?_
    refine c_reg ?_
    refine mv (.string _) rfl ?_
    refine cal (RParse_in s hs hA) [] [0, 1] [_, _] rfl rfl rfl (by kernel_rfl) (impl_cons (impl_at 0 rfl) (impl_cons (impl_at 1 rfl) impl_nil)) rfl ?_; rintro _ _ _ ⟨ob, hob, rfl, rfl, rfl⟩; refine ⟨trivial, ?_⟩
    refine mv (.tuple _) rfl ?_
    refine xtr (.agg _) rfl rfl ?_
    refine xtr (.int _ _) rfl rfl ?_
    refine xtr (.int _ _) rfl rfl ?_
    refine alo [pt (0 : Int), pt ([] : Str), p1 (.slice none 0 0), pt (⟨0⟩ : F64), pt (⟨0⟩ : F64), pt (0 : UInt64), pt (zarr : (Arr UInt8 32))] _ z30 rfl fun b6 => ⟨trivial, ?_⟩
    refine stw 3 _ [pt c.kind, pt c.text, p1 (.slice ob.adr ms.length ob.cap), pt c.lat, pt c.long, pt c.number, pt c.key] rfl rfl rfl rfl ty30 ⟨trivial, ?_⟩
    refine asg (.int _ _) rfl ?_
    refine asg (.int _ _) rfl ?_
    refine jt ?_
    refine c_seq ?_
    refine c_reg ?_
    refine ldw 1 _ rfl rfl ty30 ?_
    refine ldw 3 _ rfl rfl ty30 ?_
    refine cal (alike_ct c ((oa).vs) ms (Ow.vs_ok hoa) c ((ob).vs) ms (Ow.vs_ok hob) (by first | omega | simp)) [] [0, 1, 2, 3] [_, _, _, _] rfl rfl rfl (by kernel_rfl) (impl_cons (ow_impl 4 rfl) (impl_cons (ow_impl 6 rfl) impl_nil)) rfl ?_; rintro _ _ _ ⟨rfl, rfl, rfl⟩; refine ⟨trivial, ?_⟩
    refine j_re 23 (.bool true) (congrArg Value.bool (alike_refl _ _)) ?_
    refine mv (.bool _) rfl ?_
    refine g_on rfl rfl rfl ?_
    refine mv (.int _ _) rfl ?_
    refine g_on rfl rfl rfl ?_
    refine mv (.int _ _) rfl ?_
    refine g_on rfl rfl rfl ?_
    refine cmp true rfl rfl rfl ?_
    refine pkt (.bool _) rfl rfl ?_
    refine mv (.bool _) rfl ?_
    refine g_on rfl rfl rfl ?_
    refine mv (.int _ _) rfl ?_
    refine g_on rfl rfl rfl ?_
    refine mv (.int _ _) rfl ?_
    refine g_on rfl rfl rfl ?_
    refine cmp true rfl rfl rfl ?_
    refine pkt (.bool _) rfl rfl ?_
    refine asg (.bool _) rfl ?_
    refine jt ?_
    refine c_ret ?_
    exact j_end (own0 := []) (ro0 := [tPow10 3, tDb64 8, tIf 5 eu ev, tIf 6 ru rv]) (.inl rfl) rfl (hr1 Tryd.results5 (rvt (v := (.bool _)) rfl)) [] [0, 1, 2, 3] [] [_, _, _, _] [] _ rfl rfl (by kernel_rfl) rfl impl_nil (⟨rfl, rfl, rfl⟩)
  · refine ⟨trivial, ?_⟩
    refine mv (.tuple _) rfl ?_
    refine xtr (.agg _) rfl rfl ?_
    refine xtr (.int _ _) rfl rfl ?_
    refine xtr (.int _ _) rfl rfl ?_
    refine alo [pt (0 : Int), pt ([] : Str), p1 (.slice none 0 0), pt (⟨0⟩ : F64), pt (⟨0⟩ : F64), pt (0 : UInt64), pt (zarr : (Arr UInt8 32))] _ z30 rfl fun b3 => ⟨trivial, ?_⟩
    refine stw 0 _ [pt (0 : Int), pt ([] : Str), p1 (.slice none 0 0), pt (⟨0⟩ : F64), pt (⟨0⟩ : F64), pt (0 : UInt64), pt (zarr : (Arr UInt8 32))] rfl rfl rfl rfl ty30 ⟨trivial, ?_⟩
    refine asg (.int _ _) rfl ?_
    refine asg (.int _ _) rfl ?_
    refine jt ?_
    refine c_seq ?_
    refine c_reg ?_
    refine mv (.string _) rfl ?_
    refine cal (RParse_no s hs hB) [] [0] [_] rfl rfl rfl (by kernel_rfl) (impl_cons (impl_at 0 rfl) (impl_cons (impl_at 1 rfl) impl_nil)) rfl ?_; rintro _ _ _ ⟨rfl, rfl, rfl⟩; refine ⟨trivial, ?_⟩
    refine mv (.tuple _) rfl ?_
    refine xtr (.agg _) rfl rfl ?_
    refine xtr (.int _ _) rfl rfl ?_
    refine xtr (.int _ _) rfl rfl ?_
    refine alo [pt (0 : Int), pt ([] : Str), p1 (.slice none 0 0), pt (⟨0⟩ : F64), pt (⟨0⟩ : F64), pt (0 : UInt64), pt (zarr : (Arr UInt8 32))] _ z30 rfl fun b6 => ⟨trivial, ?_⟩
    refine stw 1 _ [pt (0 : Int), pt ([] : Str), p1 (.slice none 0 0), pt (⟨0⟩ : F64), pt (⟨0⟩ : F64), pt (0 : UInt64), pt (zarr : (Arr UInt8 32))] rfl rfl rfl rfl ty30 ⟨trivial, ?_⟩
    refine asg (.int _ _) rfl ?_
    refine asg (.int _ _) rfl ?_
    refine jt ?_
    refine c_seq ?_
    refine c_reg ?_
    refine ldw 0 _ rfl rfl ty30 ?_
    refine ldw 1 _ rfl rfl ty30 ?_
    refine cal (alike_ct (⟨(0 : Int), ([] : Str), (⟨0⟩ : F64), (⟨0⟩ : F64), (0 : UInt64), (zarr : (Arr UInt8 32))⟩ : Con) (⟨true, 0, 0, 0, none⟩ : Vs) ([] : List UInt32) nilrow_ok (⟨(0 : Int), ([] : Str), (⟨0⟩ : F64), (⟨0⟩ : F64), (0 : UInt64), (zarr : (Arr UInt8 32))⟩ : Con) (⟨true, 0, 0, 0, none⟩ : Vs) ([] : List UInt32) nilrow_ok (by first | omega | simp)) [] [0, 1] [_, _] rfl rfl rfl (by kernel_rfl) (impl_cons impl_nilrow (impl_cons impl_nilrow impl_nil)) rfl ?_; rintro _ _ _ ⟨rfl, rfl, rfl⟩; refine ⟨trivial, ?_⟩
    refine j_re 23 (.bool true) (congrArg Value.bool (alike_refl _ _)) ?_
    refine mv (.bool _) rfl ?_
    refine g_on rfl rfl rfl ?_
    refine mv (.int _ _) rfl ?_
    refine g_on rfl rfl rfl ?_
    refine mv (.int _ _) rfl ?_
    refine g_on rfl rfl rfl ?_
    refine cmp true rfl rfl (by simp [cmpV]) ?_
    refine pkt (.bool _) rfl rfl ?_
    refine mv (.bool _) rfl ?_
    refine g_on rfl rfl rfl ?_
    refine mv (.int _ _) rfl ?_
    refine g_on rfl rfl rfl ?_
    refine mv (.int _ _) rfl ?_
    refine g_on rfl rfl rfl ?_
    refine cmp true rfl rfl rfl ?_
    refine pkt (.bool _) rfl rfl ?_
    refine asg (.bool _) rfl ?_
    refine jt ?_
    refine c_ret ?_
    exact j_end (own0 := []) (ro0 := [tPow10 3, tDb64 8, tIf 5 eu ev, tIf 6 ru rv]) (.inl rfl) rfl (hr1 Tryd.results5 (rvt (v := (.bool _)) rfl)) [] [0, 1] [] [_, _] [] _ rfl rfl (by kernel_rfl) rfl impl_nil (⟨rfl, rfl, rfl⟩)
end Go.Proofs.YthpbiamicidakaaDoor
namespace Go.Proofs.YthpbiamicidakaaDoor
open Go Go.ChangeShapes Go.WideShapes Go.ChangeAt Go.RowKit Go.PW
open Go.PW.Enc (enc val)
theorem own : ownKnob Tryd.prog.godebug = none := by kernel_rfl
theorem kids : Kids Tryd.prog (· < Tryd.prog.types.size) := kids_rows (by kernel_rfl) (by kernel_rfl)
theorem full : ∀ t e, t < Tryd.prog.types.size → Tryd.prog.underlying t = some (.slice e) → 0 < Tryd.prog.cellsOf e := slices_full_of _ (by kernel_rfl)
theorem opn25 : Opn Tryd.prog 25 Key := opn_arr (n := 32) Tryd.underlying25 (by kernel_rfl) (by kernel_rfl) (opn_u8 Tryd.underlying5)
set_option maxRecDepth 100000 in
/-- What a law says of a content, opened. -/
theorem open_said {H : Type} {encH : TypeId × Value → H} {W : World} {base : Nat} {v : Value} {d : DataW H} {p : List MemPlace} (hval : Value.okWide Tryd.prog W .any base 27 v) (h : DataW.Trod encH Tryd.prog W 0 (fun _ => true) true 27 v d p) (hw : ∀ n ∈ d.weights Tryd.prog 27, n ≤ reachBytes) :
    ∃ (s : Sai) (sm : Vs) (ms : List UInt32), sm.ok ms ∧ ms.length ≤ 35184372088832 ∧ SegIn W (sm.seg ms) ∧ s.text.length ≤ 9223372036854775807 ∧ v = .agg ⟨cat [pt s.kind, pt s.text, p1 (.slice sm.adr ms.length sm.cap), pt s.lat, pt s.long, pt s.number, pt s.key]⟩ := by
  obtain ⟨cs, fuel, rfl, hf⟩ := open_agg Tryd.underlying27 hval h
  obtain ⟨hl, n, hf⟩ := open_fields Tryd.underlying27 hf hw
  obtain ⟨d0, p0, h0, w0⟩ := hf 0 _ rfl
  obtain ⟨d1, p1, h1, w1⟩ := hf 1 _ rfl
  obtain ⟨d2, p2, h2, w2⟩ := hf 2 _ rfl
  obtain ⟨d3, p3, h3, w3⟩ := hf 3 _ rfl
  obtain ⟨d4, p4, h4, w4⟩ := hf 4 _ rfl
  obtain ⟨d5, p5, h5, w5⟩ := hf 5 _ rfl
  obtain ⟨d6, p6, h6, w6⟩ := hf 6 _ rfl
  obtain ⟨kind, e0⟩ := opn_i64 Tryd.underlying3 h0
  obtain ⟨text, e1, ht⟩ := opn_str Tryd.underlying9 h1 w1
  obtain ⟨sm, ms, e2, hok, hseg, hsz, _⟩ := Go.PW.open_row Tryd.underlying22 (by kernel_rfl) (by decide) (OpnM.of (opn_u32 Tryd.underlying47)) h2 w2
  obtain ⟨lat, e3⟩ := opn_u64 Tryd.underlying23 h3
  obtain ⟨long, e4⟩ := opn_u64 Tryd.underlying23 h4
  obtain ⟨number, e5⟩ := opn_u64 Tryd.underlying23 h5
  obtain ⟨key, e6⟩ := opn25 h6
  refine ⟨⟨kind, text, lat, long, number, key⟩, sm, ms, hok, ?_, hseg, ht, ?_⟩
  · rw [show Tryd.prog.bytesOf 47 = 4 by kernel_rfl, show reachBytes = 140737488351232 from rfl] at hsz
    omega
  · have hg := glue (cs := cs) [1, 1, 1, 1, 1, 1, 32] 0 (by rw [hl]; kernel_rfl)
    rw [List.drop_zero] at hg
    rw [hg]
    replace e0 : List.take (Tryd.prog.cellsOf 3) (List.drop 0 cs) = enc kind := e0
    replace e1 : List.take (Tryd.prog.cellsOf 9) (List.drop 1 cs) = enc text := e1
    replace e2 : List.take (Tryd.prog.cellsOf 22) (List.drop 2 cs) = [.slice sm.adr ms.length sm.cap] := e2
    replace e3 : List.take (Tryd.prog.cellsOf 23) (List.drop 3 cs) = enc lat := e3
    replace e4 : List.take (Tryd.prog.cellsOf 23) (List.drop 4 cs) = enc long := e4
    replace e5 : List.take (Tryd.prog.cellsOf 23) (List.drop 5 cs) = enc number := e5
    replace e6 : List.take (Tryd.prog.cellsOf 25) (List.drop 6 cs) = enc key := e6
    rw [show Tryd.prog.cellsOf 3 = 1 by kernel_rfl] at e0
    rw [show Tryd.prog.cellsOf 9 = 1 by kernel_rfl] at e1
    rw [show Tryd.prog.cellsOf 22 = 1 by kernel_rfl] at e2
    rw [show Tryd.prog.cellsOf 23 = 1 by kernel_rfl] at e3 e4 e5
    rw [show Tryd.prog.cellsOf 25 = 32 by kernel_rfl] at e6
    simp only [pieces, Nat.zero_add, Nat.reduceAdd, e0, e1, e2, e3, e4, e5, e6, List.flatten_cons, List.flatten_nil, List.append_nil]
    rfl
theorem g1 : Tryd.prog.globalNamed "unicode/utf8.first" = some 1 := by kernel_rfl
theorem g2 : Tryd.prog.globalNamed "unicode/utf8.acceptRanges" = some 2 := by kernel_rfl
noncomputable def laidW (os : Os) : World :=
  { World.doorLaid Tryd.prog 400 os with heap := (World.doorLaid Tryd.prog 400 os).heap.modify 1 fun
      | .cells _ t fr => .cells ⟨encs firstL⟩ t fr
      | o => o }
end Go.Proofs.YthpbiamicidakaaDoor
namespace Go.Proofs.YthpbiamicidakaaDoor
open Go Go.ChangeShapes Go.WideShapes Go.ChangeAt Go.RowKit Go.PW
open Go.PW.Enc (enc val)
theorem g3 : Tryd.prog.globalNamed "internal/strconv.uint64pow10" = some 3 := by kernel_rfl
theorem g8 : Tryd.prog.globalNamed "math/bits.deBruijn64tab" = some 8 := by kernel_rfl
theorem tg3 : (Tryd.prog.globals[3]?).map (·.type) = some 127 := by kernel_rfl
theorem tg8 : (Tryd.prog.globals[8]?).map (·.type) = some 150 := by kernel_rfl
set_option maxRecDepth 100000 in
theorem laid_pow10 {W : World} {l : List (String × DataW Unit)} {ps : List MemPlace} (h : DataW.LaidVars Tryd.prog W l ps) (hm : ("internal/strconv.uint64pow10", Rows.laid_internal_strconv_uint64pow10) ∈ l) : SegIn W (tPow10 3) :=
  laid_row (⟨pow10L, by kernel_rfl⟩ : Arr UInt64 20) g3 tg3 (opnD_arr Tryd.underlying127 (by kernel_rfl) (by kernel_rfl) (opnD_u64 Tryd.underlying23)) (fun h => dU64_inj h) (by kernel_rfl) (laid_one h hm)
set_option maxRecDepth 100000 in
theorem laid_db64 {W : World} {l : List (String × DataW Unit)} {ps : List MemPlace} (h : DataW.LaidVars Tryd.prog W l ps) (hm : ("math/bits.deBruijn64tab", Rows.laid_math_bits_deBruijn64tab) ∈ l) : SegIn W (tDb64 8) :=
  laid_row (⟨dbL, by kernel_rfl⟩ : Arr UInt8 64) g8 tg8 (opnD_arr Tryd.underlying150 (by kernel_rfl) (by kernel_rfl) (opnD_u8 Tryd.underlying5)) (fun h => dU8_inj h) (by kernel_rfl) (laid_one h hm)
theorem g5 : Tryd.prog.globalNamed "strconv.ErrSyntax" = some 5 := by kernel_rfl
theorem g6 : Tryd.prog.globalNamed "strconv.ErrRange" = some 6 := by kernel_rfl
theorem tg5 : (Tryd.prog.globals[5]?).map (·.type) = some 80 := by kernel_rfl
theorem tg6 : (Tryd.prog.globals[6]?).map (·.type) = some 80 := by kernel_rfl
theorem laid_es {W : World} {l : List (String × DataW Unit)} {ps : List MemPlace} (h : DataW.LaidVars Tryd.prog W l ps) (hm : ("strconv.ErrSyntax", Rows.laid_strconv_ErrSyntax) ∈ l) : ∃ u v, SegIn W (tIf 5 u v) := laid_if g5 tg5 Tryd.underlying80 (laid_one h hm)
theorem laid_er {W : World} {l : List (String × DataW Unit)} {ps : List MemPlace} (h : DataW.LaidVars Tryd.prog W l ps) (hm : ("strconv.ErrRange", Rows.laid_strconv_ErrRange) ∈ l) : ∃ u v, SegIn W (tIf 6 u v) := laid_if g6 tg6 Tryd.underlying80 (laid_one h hm)
set_option maxRecDepth 100000 in
theorem contentParses_met (os : Os) (args : Array Value) : laidMetH Tryd.prog Rows.contentParsesRow.laid ((laidW os).forCall (fun _ _ => 0) ⟨#[], args, []⟩).memory :=
  laidMetH_of_parts3 (fuel := 8) (laidMet_of_run' 8 (by kernel_rfl) (by kernel_rfl)) (by kernel_rfl) (by kernel_rfl)
set_option maxRecDepth 100000 in
theorem contentParses_lifted (os : Os) (started : os.Started) (H : Type) (enc : TypeId × Value → H) :
    ReturnsInHanded {} Tryd.checked os 5 .any (fun w args => (Rows.contentParsesSpec.pre enc Tryd.prog Tryd.f5 [] false w args ∧ laidMetH Tryd.prog Rows.contentParsesRow.laid w) ∧ sizedMet enc Tryd.prog Tryd.f5 (OpenSpec.ofChange Rows.contentParsesSpec) false w args)
      (Rows.contentParsesSpec.post enc Tryd.prog Tryd.f5 false true false false) := by
  refine returnsInHanded_of_change_and (C := Tryd.checked) (X := fun w _ => laidMetH Tryd.prog Rows.contentParsesRow.laid w) (fun _ _ _ hh h => h.of_heap hh) own started (by kernel_rfl) Tryd.func5
    (ChangeSpec.witness_shaped (enc := enc) (C := Tryd.checked) (os := os) (X := fun w _ => laidMetH Tryd.prog Rows.contentParsesRow.laid w) false (laidW os) #[strV []] 40 rfl (World.shaped_of_RefB (by kernel_rfl) (by kernel_rfl)) (by kernel_rfl) (by kernel_rfl) (by kernel_rfl) (contentParses_met os _)) ?_
  intro W base args ds gs before hval0 hW _ hwt hL _
  have hval : ∀ (j : Nat) t v, Tryd.f5.params[j]? = some t → args[j]? = some v → Value.okWide Tryd.prog W .any base t v := hval0
  have hW' := hW
  obtain ⟨p, q, hA0, hV, rfl, hfz, hnd⟩ := hW
  have hA : DataW.TrodAll enc Tryd.prog W 0 (fun _ => true) true Tryd.f5.params.toList args.toList ds p := hA0
  rw [Tryd.params5] at hA hval
  obtain ⟨v0, vs0, d0, ds0, p0, q0, hargs, rfl, rfl, h0, r0⟩ := trodAll_cons hA
  obtain ⟨rfl, rfl, rfl⟩ := trodAll_nil r0
  obtain rfl : args = #[v0] := by cases args; simp_all
  obtain ⟨rfl, rfl⟩ := trodVars_none hV
  obtain ⟨s0, rfl, rfl, rfl, _⟩ := Go.ChangeMaps.open_string Tryd.underlying9 (hval 0 9 v0 rfl rfl) h0
  have hs : s0.data.toList.length ≤ 140737488351232 := sized_string hwt (j := 0) (t := 9) (by rw [Tryd.params5]; rfl) rfl
  have hl := hL
  rw [MakeChecks.laidMetH_plain _ _ _ (by kernel_rfl)] at hl
  obtain ⟨ps, hl, _⟩ := hl
  have ha := laid_pow10 hl (by simp [Rows.contentParsesRow])
  have hb2 := laid_db64 hl (by simp [Rows.contentParsesRow])
  have hc := laid_es hl (by simp [Rows.contentParsesRow])
  have hd := laid_er hl (by simp [Rows.contentParsesRow])
  obtain ⟨eu, ev, hc⟩ := hc
  obtain ⟨ru, rv, hd⟩ := hd
  have hct := (ContentParses_ct s0.data.toList hs eu ev ru rv).2 W ⟨by simp, by simpa using ⟨ha, hb2, hc, hd⟩, by simp [blks], by simp [blks]⟩
  refine hct.mono fun e W' ⟨v, own', ro', he, hp, hin⟩ => ⟨v, he, ?_⟩
  obtain ⟨rfl, _, _⟩ := hp
  exact law_post kids full (by rw [Tryd.params5]; decide) hW' rfl hin.ext rfl (by kernel_rfl) Tryd.underlying4
set_option maxRecDepth 100000 in
theorem contentParses_over : Rows.contentParsesRow.holds Tryd.pinned (OpenSpec.ofChange Rows.contentParsesSpec) :=
  OpenClaim.holds_of_wide 5 Tryd.f5 rfl rfl rfl rfl rfl rfl rfl ⟨rfl, rfl, rfl, rfl, rfl⟩ rfl rfl rfl rfl rfl (by kernel_rfl) Tryd.func5 (by kernel_rfl)
    (of_decide_eq_true (by kernel_rfl)) (by unfold Func.isWrapper; first | (rw [if_pos (by decide +kernel)]; kernel_rfl) | (rw [if_neg (by decide +kernel)]; exact ⟨rfl, rfl⟩))
    (fun os started H enc _ => contentParses_lifted os started H enc)
set_option maxRecDepth 100000 in
/-- The statement: the tied card. -/
theorem contentParses_holds : Rows.ContentParsesCardSaid :=
  Claim7.holds_tied_plain_at .later [] [.data, .data, .data, .sentinel, .sentinel] true (true, "eaff5602f16009a75e294530c1c39c3436e583f10ae91c592370ce35e5a34927") true
    contentParses_over (fun _ h => by cases h) (by kernel_rfl) (fun _ h => by cases h) contentParses_row_tie rfl ⟨rfl, rfl⟩ (by kernel_rfl) rfl
    (fun f fn hf hfn => by
      obtain rfl : f = 5 := Option.some.inj ((show Tryd.prog.funcNamed "pawl/pawllaw09.ContentParses" = some 5 by kernel_rfl).symm.trans hf) |>.symm
      obtain rfl : fn = Tryd.f5 := (Option.some.inj (Tryd.func5.symm.trans hfn)).symm
      exact ⟨by kernel_rfl, fun j t ht => by
        rw [Tryd.params5] at ht
        have hm : t ∈ [9] := by simpa using Array.mem_of_getElem? ht
        have hall : ([9].all fun u => !Tryd.prog.wantsStandIn u) = true := by kernel_rfl
        exact (show Tryd.prog.wantsStandIn t = false by simpa using List.all_eq_true.1 hall t hm)⟩)
    (by kernel_rfl)
end Go.Proofs.YthpbiamicidakaaDoor
