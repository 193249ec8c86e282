/- Contracts of the program's functions, walked. No condition. -/
import Derived.Test.YthpbiamicidakaaDoorA7
namespace Go.Proofs.YthpbiamicidakaaDoor
open Go Go.Proofs Go.PW
open Go.PW.Enc (enc val)
theorem z47 : Zt Tryd.prog 47 ((pt (0 : UInt32)).v) := by unfold Zt; kernel_rfl
theorem by47 : (Tryd.prog.info? 47).map (·.bytes) = some 4 := by kernel_rfl
def rchkV (c : Con) (ms : List UInt32) : Int :=
  if c.kind = 3 ∧ (floatV c.lat.b 90 ≠ 0 ∨ floatV c.long.b 180 ≠ 0) then 91 else if ownB c ms = false ∨ othersB c ms = false then 90 else 0

set_option maxRecDepth 20000 in
set_option maxHeartbeats 4000000 in
theorem RCheck_ct (c : Con) (sm : Vs) (ms : List UInt32) (hm : sm.ok ms) (hb : ms.length ≤ 4611686018427387904) : Ct Tryd.prog 8 [.agg ⟨cat [pt c.kind, pt c.text, p1 (.slice sm.adr ms.length sm.cap), pt c.lat, pt c.long, pt c.number, pt c.key]⟩] [] [sm.seg ms] (fun v o r => v = .int .i64 (rchkV c ms) ∧ o = [] ∧ r = []) := by
  refine ct_enter Tryd.func8 rfl Tryd.ntmps8 (by kernel_rfl) rfl fun w0 => ?_
  refine c_seq ?_
  refine c_reg ?_
  refine bxx [pt c.kind, pt c.text, p1 (.slice sm.adr ms.length sm.cap), pt c.lat, pt c.long, pt c.number, pt c.key] _ rfl rfl fun b1 => ⟨trivial, ?_⟩
  refine asg (.int _ _) rfl ?_
  refine jt ?_
  refine c_seq ?_
  refine c_seq ?_
  refine c_reg ?_
  refine fad rfl Tryd.underlying30 rfl ty3.sz ?_
  refine ldp 0 0 _ rfl rfl rfl rfl ty3 ?_
  refine cmp _ rfl rfl rfl ?_
  refine mv (.bool _) rfl ?_
  refine jsplit 6 rfl (fun h1 => ?_) (fun h1 => ?_)
  · replace h1 := of_decide_eq_true h1
    refine g_on rfl rfl rfl ?_
    refine fad rfl Tryd.underlying30 rfl ty28.sz ?_
    refine g_on rfl rfl rfl ?_
    refine ldp 0 3 _ rfl rfl rfl rfl ty28 ?_
    refine g_on rfl rfl rfl ?_
    refine cal (onEarth_ct c.lat (90 : UInt64) (by decide)) [] [0] [_] rfl rfl rfl (by kernel_rfl) impl_nil rfl ?_; rintro _ _ _ ⟨rfl, rfl, rfl⟩; refine ⟨trivial, ?_⟩
    refine g_on rfl rfl rfl ?_
    refine not_ rfl ?_
    refine g_on rfl rfl rfl ?_
    refine mv (.bool _) rfl ?_
    refine jsplit 11 rfl (fun h2 => ?_) (fun h2 => ?_)
    · replace h2 := ndt h2
      refine g_off rfl rfl rfl rfl ?_
      refine g_off rfl rfl rfl rfl ?_
      refine g_off rfl rfl rfl rfl ?_
      refine g_off rfl rfl rfl rfl ?_
      refine g_on rfl rfl rfl ?_
      refine pkt (.bool _) rfl rfl ?_
      refine pkt (.bool _) rfl rfl ?_
      refine jt ?_
      refine c_true rfl ?_
      refine c_seq ?_
      refine c_reg ?_
      refine asg (.int _ _) rfl ?_
      refine jt ?_
      refine c_ret ?_
      exact j_end (own0 := []) (ro0 := [sm.seg ms]) (.inl rfl) rfl (hr1 Tryd.results8 (rvt (v := (.int _ _)) rfl)) [] [0] [] [_] [] _ rfl rfl (by kernel_rfl) rfl impl_nil (⟨(by first | (exfalso; omega) | simp_all [rchkV]), rfl, rfl⟩)
    · replace h2 := ndf h2
      refine g_on rfl rfl rfl ?_
      refine fad rfl Tryd.underlying30 rfl ty28.sz ?_
      refine g_on rfl rfl rfl ?_
      refine ldp 0 4 _ rfl rfl rfl rfl ty28 ?_
      refine g_on rfl rfl rfl ?_
      refine cal (onEarth_ct c.long (180 : UInt64) (by decide)) [] [0] [_] rfl rfl rfl (by kernel_rfl) impl_nil rfl ?_; rintro _ _ _ ⟨rfl, rfl, rfl⟩; refine ⟨trivial, ?_⟩
      refine g_on rfl rfl rfl ?_
      refine not_ rfl ?_
      refine g_on rfl rfl rfl ?_
      refine pkf (.bool _) rfl rfl ?_
      refine pkt (.bool _) rfl rfl ?_
      refine jt ?_
      refine c_cond rfl (fun h3 => ?_) (fun h3 => ?_)
      · replace h3 := ndt h3
        refine c_seq ?_
        refine c_reg ?_
        refine asg (.int _ _) rfl ?_
        refine jt ?_
        refine c_ret ?_
        exact j_end (own0 := []) (ro0 := [sm.seg ms]) (.inl rfl) rfl (hr1 Tryd.results8 (rvt (v := (.int _ _)) rfl)) [] [0] [] [_] [] _ rfl rfl (by kernel_rfl) rfl impl_nil (⟨(by first | (exfalso; omega) | simp_all [rchkV]), rfl, rfl⟩)
      · replace h3 := ndf h3
        refine c_skip ?_
        refine e_then ?_
        refine c_seq ?_
        refine c_seq ?_
        refine c_reg ?_
        refine ldw 0 _ rfl rfl ty30 ?_
        refine cal (own_ct c sm ms hm hb) [] [0] [_] rfl rfl rfl (by kernel_rfl) (impl_cons (impl_at 0 rfl) impl_nil) rfl ?_; rintro _ _ _ ⟨rfl, rfl, rfl⟩; refine ⟨trivial, ?_⟩
        refine not_ rfl ?_
        refine mv (.bool _) rfl ?_
        refine jsplit 21 rfl (fun h4 => ?_) (fun h4 => ?_)
        · refine g_off rfl rfl rfl rfl ?_
          refine g_off rfl rfl rfl rfl ?_
          refine g_off rfl rfl rfl rfl ?_
          refine pkt (.bool _) rfl rfl ?_
          refine jt ?_
          refine c_true rfl ?_
          refine c_seq ?_
          refine c_reg ?_
          refine asg (.int _ _) rfl ?_
          refine jt ?_
          refine c_ret ?_
          exact j_end (own0 := []) (ro0 := [sm.seg ms]) (.inl rfl) rfl (hr1 Tryd.results8 (rvt (v := (.int _ _)) rfl)) [] [0] [] [_] [] _ rfl rfl (by kernel_rfl) rfl impl_nil (⟨(by first | (exfalso; omega) | simp_all [rchkV]), rfl, rfl⟩)
        · refine g_on rfl rfl rfl ?_
          refine ldw 0 _ rfl rfl ty30 ?_
          refine g_on rfl rfl rfl ?_
          refine cal (others_ct c sm ms hm hb) [] [0] [_] rfl rfl rfl (by kernel_rfl) (impl_cons (impl_at 0 rfl) impl_nil) rfl ?_; rintro _ _ _ ⟨rfl, rfl, rfl⟩; refine ⟨trivial, ?_⟩
          refine g_on rfl rfl rfl ?_
          refine not_ rfl ?_
          refine pkf (.bool _) rfl rfl ?_
          refine jt ?_
          refine c_cond rfl (fun h5 => ?_) (fun h5 => ?_)
          · refine c_seq ?_
            refine c_reg ?_
            refine asg (.int _ _) rfl ?_
            refine jt ?_
            refine c_ret ?_
            exact j_end (own0 := []) (ro0 := [sm.seg ms]) (.inl rfl) rfl (hr1 Tryd.results8 (rvt (v := (.int _ _)) rfl)) [] [0] [] [_] [] _ rfl rfl (by kernel_rfl) rfl impl_nil (⟨(by first | (exfalso; omega) | simp_all [rchkV]), rfl, rfl⟩)
          · refine c_skip ?_
            refine e_then ?_
            refine c_seq ?_
            refine c_reg ?_
            refine asg (.int _ _) rfl ?_
            refine jt ?_
            refine c_ret ?_
            exact j_end (own0 := []) (ro0 := [sm.seg ms]) (.inl rfl) rfl (hr1 Tryd.results8 (rvt (v := (.int _ _)) rfl)) [] [0] [] [_] [] _ rfl rfl (by kernel_rfl) rfl impl_nil (⟨(by first | (exfalso; omega) | simp_all [rchkV]), rfl, rfl⟩)
  · replace h1 := of_decide_eq_false h1
    refine g_off rfl rfl rfl rfl ?_
    refine g_off rfl rfl rfl rfl ?_
    refine g_off rfl rfl rfl rfl ?_
    refine g_off rfl rfl rfl rfl ?_
    refine g_off rfl rfl rfl rfl ?_
    refine g_und rfl rfl rfl ?_
    refine g_und rfl rfl rfl ?_
    refine g_und rfl rfl rfl ?_
    refine g_und rfl rfl rfl ?_
    refine g_off rfl rfl rfl rfl ?_
    refine pkf (.bool _) rfl rfl ?_
    refine jt ?_
    refine c_false rfl ?_
    refine c_skip ?_
    refine e_then ?_
    refine c_seq ?_
    refine c_seq ?_
    refine c_reg ?_
    refine ldw 0 _ rfl rfl ty30 ?_
    refine cal (own_ct c sm ms hm hb) [] [0] [_] rfl rfl rfl (by kernel_rfl) (impl_cons (impl_at 0 rfl) impl_nil) rfl ?_; rintro _ _ _ ⟨rfl, rfl, rfl⟩; refine ⟨trivial, ?_⟩
    refine not_ rfl ?_
    refine mv (.bool _) rfl ?_
    refine jsplit 21 rfl (fun h6 => ?_) (fun h6 => ?_)
    · refine g_off rfl rfl rfl rfl ?_
      refine g_off rfl rfl rfl rfl ?_
      refine g_off rfl rfl rfl rfl ?_
      refine pkt (.bool _) rfl rfl ?_
      refine jt ?_
      refine c_true rfl ?_
      refine c_seq ?_
      refine c_reg ?_
      refine asg (.int _ _) rfl ?_
      refine jt ?_
      refine c_ret ?_
      exact j_end (own0 := []) (ro0 := [sm.seg ms]) (.inl rfl) rfl (hr1 Tryd.results8 (rvt (v := (.int _ _)) rfl)) [] [0] [] [_] [] _ rfl rfl (by kernel_rfl) rfl impl_nil (⟨(by first | (exfalso; omega) | simp_all [rchkV]), rfl, rfl⟩)
    · refine g_on rfl rfl rfl ?_
      refine ldw 0 _ rfl rfl ty30 ?_
      refine g_on rfl rfl rfl ?_
      refine cal (others_ct c sm ms hm hb) [] [0] [_] rfl rfl rfl (by kernel_rfl) (impl_cons (impl_at 0 rfl) impl_nil) rfl ?_; rintro _ _ _ ⟨rfl, rfl, rfl⟩; refine ⟨trivial, ?_⟩
      refine g_on rfl rfl rfl ?_
      refine not_ rfl ?_
      refine pkf (.bool _) rfl rfl ?_
      refine jt ?_
      refine c_cond rfl (fun h7 => ?_) (fun h7 => ?_)
      · refine c_seq ?_
        refine c_reg ?_
        refine asg (.int _ _) rfl ?_
        refine jt ?_
        refine c_ret ?_
        exact j_end (own0 := []) (ro0 := [sm.seg ms]) (.inl rfl) rfl (hr1 Tryd.results8 (rvt (v := (.int _ _)) rfl)) [] [0] [] [_] [] _ rfl rfl (by kernel_rfl) rfl impl_nil (⟨(by first | (exfalso; omega) | simp_all [rchkV]), rfl, rfl⟩)
      · refine c_skip ?_
        refine e_then ?_
        refine c_seq ?_
        refine c_reg ?_
        refine asg (.int _ _) rfl ?_
        refine jt ?_
        refine c_ret ?_
        exact j_end (own0 := []) (ro0 := [sm.seg ms]) (.inl rfl) rfl (hr1 Tryd.results8 (rvt (v := (.int _ _)) rfl)) [] [0] [] [_] [] _ rfl rfl (by kernel_rfl) rfl impl_nil (⟨(by first | (exfalso; omega) | simp_all [rchkV]), rfl, rfl⟩)

theorem of_ct (s : Sai) (sm : Vs) (ms : List UInt32) (hm : sm.ok ms) (hb : ms.length ≤ 35184372088832) : Ct Tryd.prog 7 [.agg ⟨cat [pt s.kind, pt s.text, p1 (.slice sm.adr ms.length sm.cap), pt s.lat, pt s.long, pt s.number, pt s.key]⟩] [] [sm.seg ms] (fun v w r => ∃ (o : Ow), o.ok ms ∧ v = .agg ⟨cat [pt s.con.kind, pt s.con.text, p1 (.slice o.adr ms.length o.cap), pt s.con.lat, pt s.con.long, pt s.con.number, pt s.con.key]⟩ ∧ w = [o.seg ms 47] ∧ r = []) := by
  refine ct_enter Tryd.func7 rfl Tryd.ntmps7 (by kernel_rfl) rfl fun w0 => ?_
  refine c_seq ?_
  refine c_reg ?_
  refine bxx [pt s.kind, pt s.text, p1 (.slice sm.adr ms.length sm.cap), pt s.lat, pt s.long, pt s.number, pt s.key] _ rfl rfl fun b1 => ⟨trivial, ?_⟩
  refine alo [pt (0 : Int), pt ([] : Str), p1 (.slice none 0 0), pt (⟨0⟩ : F64), pt (⟨0⟩ : F64), pt (0 : UInt64), pt (zarr : (Arr UInt8 32))] _ z30 rfl fun b2 => ⟨trivial, ?_⟩
  refine jt ?_
  refine c_seq ?_
  refine c_dr [_, _] [] [(0, 0), (1, 0), (2, 0), (3, 0), (5, 0), (6, 0), (8, 0), (9, 0), (11, 0), (12, 0), (14, 0), (15, 0), (16, 0), (17, 0), (4, 1), (7, 1), (10, 1), (13, 1), (18, 0), (19, 1)] follows (by kernel_rfl) calm_body (keepS [0, 2] rfl) ?_
  refine fad rfl Tryd.underlying27 rfl ty3.sz ?_
  refine ldp 0 0 _ rfl rfl rfl rfl ty3 ?_
  refine fad rfl Tryd.underlying27 rfl ty9.sz ?_
  refine ldp 0 1 _ rfl rfl rfl rfl ty9 ?_
  refine fad rfl Tryd.underlying27 rfl ty22.sz ?_
  refine ldp 0 2 _ rfl rfl rfl rfl ty22 ?_
  refine fad rfl Tryd.underlying27 rfl ty23.sz ?_
  refine ldp 0 3 _ rfl rfl rfl rfl ty23 ?_
  refine fad rfl Tryd.underlying27 rfl ty23.sz ?_
  refine ldp 0 4 _ rfl rfl rfl rfl ty23 ?_
  refine fad rfl Tryd.underlying27 rfl ty23.sz ?_
  refine ldp 0 5 _ rfl rfl rfl rfl ty23 ?_
  refine fad rfl Tryd.underlying27 rfl ty25.sz ?_
  refine ldp 0 6 _ rfl rfl rfl rfl ty25 ?_
  refine bsl (α := UInt32) ([]) Tryd.underlying22 ty47.sz rfl (by decide) z47 rfl fun b7 => ⟨keepI [0, 3] rfl, ?_⟩
  refine app 2 (⟨false, b7, 0, []⟩) ([] : List UInt32) ms (⟨by simp, fun _ => rfl, Nat.le_refl _⟩) rfl ⟨rfl, rfl, rfl⟩ rfl rfl (gives_vs 3 hm rfl) Tryd.underlying22 Tryd.underlying22 (.inl ⟨_, rfl⟩) ty47.sz by47 z47 rfl (by simp; omega) rfl fun o10_1 hk10_1 => ⟨keepI [0, 3] rfl, ?_⟩
  refine xcal (args := [.int .u64 (s.lat.toNat : Int)]) (.float .f64 s.lat.toNat) Tryd.func16 (by kernel_rfl) (by kernel_rfl) (by kernel_rfl) (fun w => rfl) (by kernel_rfl) rfl ?_
  refine xcal (args := [.int .u64 (s.long.toNat : Int)]) (.float .f64 s.long.toNat) Tryd.func16 (by kernel_rfl) (by kernel_rfl) (by kernel_rfl) (fun w => rfl) (by kernel_rfl) rfl ?_
  refine bld [pt (0 : Int), pt ([] : Str), p1 (.slice none 0 0), pt (⟨0⟩ : F64), pt (⟨0⟩ : F64), pt (0 : UInt64), pt (zarr : (Arr UInt8 32))] [(0, pt s.kind), (1, pt s.text), (2, p1 (.slice o10_1.adr ms.length o10_1.cap)), (3, pt (⟨s.lat⟩ : F64)), (4, pt (⟨s.long⟩ : F64)), (5, pt s.number), (6, pt s.key)] _ Tryd.underlying30 (lay30 _ Tryd.underlying30) z30 rfl rfl rfl ?_
  refine stw 1 _ [pt s.kind, pt s.text, p1 (.slice o10_1.adr ms.length o10_1.cap), pt (⟨s.lat⟩ : F64), pt (⟨s.long⟩ : F64), pt s.number, pt s.key] rfl rfl rfl rfl ty30 ⟨keepI [0, 3] rfl, ?_⟩
  refine jt ?_
  refine c_ret ?_
  exact j_end (own0 := []) (ro0 := [sm.seg ms]) (.inl rfl) rfl (hr1 Tryd.results7 (rvc (p := pa [pt s.kind, pt s.text, p1 (.slice o10_1.adr ms.length o10_1.cap), pt (⟨s.lat⟩ : F64), pt (⟨s.long⟩ : F64), pt s.number, pt s.key]) 1 rfl rfl rfl ty30)) [2] [0, 1] [_] [_, _] [] _ rfl rfl (by kernel_rfl) rfl impl_nil (⟨o10_1, hk10_1, rfl, rfl, rfl⟩)
end Go.Proofs.YthpbiamicidakaaDoor
