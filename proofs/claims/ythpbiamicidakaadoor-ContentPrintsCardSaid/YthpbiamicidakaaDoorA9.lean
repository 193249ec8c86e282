/- Contracts of the program's functions, walked. No condition. -/
import Derived.Test.YthpbiamicidakaaDoorG1
namespace Go.Proofs.YthpbiamicidakaaDoor
open Go Go.Proofs Go.PW
open Go.PW.Enc (enc val)
theorem ty27 : Ty Tryd.prog 27 38 true := ⟨by kernel_rfl, by kernel_rfl⟩

theorem ContentChecks_ct (s : Sai) (sm : Vs) (ms : List UInt32) (hm : sm.ok ms) (hb : ms.length ≤ 35184372088832) : Ct Tryd.prog 3 [.agg ⟨cat [pt s.kind, pt s.text, p1 (.slice sm.adr ms.length sm.cap), pt s.lat, pt s.long, pt s.number, pt s.key]⟩] [] [sm.seg ms, tFirst 1, tAcc 2] (fun v o r => v = .bool true ∧ o = [] ∧ r = []) := by
  refine ct_enter Tryd.func3 rfl Tryd.ntmps3 (by kernel_rfl) rfl fun w0 => ?_
  refine c_seq ?_
  refine c_reg ?_
  refine bxx [pt s.kind, pt s.text, p1 (.slice sm.adr ms.length sm.cap), pt s.lat, pt s.long, pt s.number, pt s.key] _ rfl rfl fun b1 => ⟨trivial, ?_⟩
  refine asg (.bool _) rfl ?_
  refine jt ?_
  refine c_seq ?_
  refine c_reg ?_
  refine bld [pt (0 : Int), pt ([] : Str), p1 (.slice none 0 0), pt (⟨0⟩ : F64), pt (⟨0⟩ : F64), pt (0 : UInt64), pt (zarr : (Arr UInt8 32))] [(0, pt (1 : Int)), (1, pt ([104, 105] : Str)), (5, pt (1 : UInt64))] _ Tryd.underlying30 (lay30 _ Tryd.underlying30) z30 rfl rfl rfl ?_
  refine alo [pt (0 : Int), pt ([] : Str), p1 (.slice none 0 0), pt (⟨0⟩ : F64), pt (⟨0⟩ : F64), pt (0 : UInt64), pt (zarr : (Arr UInt8 32))] _ z30 rfl fun b3 => ⟨trivial, ?_⟩
  refine stw 1 _ [pt (1 : Int), pt ([104, 105] : Str), p1 (.slice none 0 0), pt (⟨0⟩ : F64), pt (⟨0⟩ : F64), pt (1 : UInt64), pt (zarr : (Arr UInt8 32))] rfl rfl rfl rfl ty30 ⟨trivial, ?_⟩
  refine jt ?_
  refine c_seq ?_
  refine c_dr [_, _, _, _, _] [] [(0, 0), (3, 0), (1, 1), (2, 1), (4, 1), (5, 1), (6, 0), (7, 0), (8, 0), (9, 1), (10, 0), (11, 0), (12, 0)] follows (by kernel_rfl) calm_body (keepS [0, 1, 2, 3, 4] rfl) ?_
  refine ldw 0 _ rfl rfl ty27 ?_
  refine ldw 0 _ rfl rfl ty27 ?_
  refine cal (of_ct s sm ms hm hb) [] [0, 1] [_, _] rfl rfl rfl (by kernel_rfl) (impl_cons (impl_at 0 rfl) impl_nil) rfl ?_; rintro _ _ _ ⟨of6, hof6, rfl, rfl, rfl⟩; refine ⟨keepI [0, 1, 3, 4, 5] rfl, ?_⟩
  refine cal (Check_ct (Sai.con s) ((of6).vs) ms (Ow.vs_ok hof6) (by omega)) [] [0, 1, 2] [_, _, _] rfl rfl rfl (by kernel_rfl) (impl_cons (ow_impl 5 rfl) (impl_cons (impl_at 1 rfl) (impl_cons (impl_at 2 rfl) impl_nil))) rfl ?_; rintro _ _ _ ⟨rfl, rfl, rfl⟩; refine ⟨keepI [0, 1, 3, 4, 5] rfl, ?_⟩
  refine cal (of_ct s sm ms hm hb) [] [0, 1, 2] [_, _, _] rfl rfl rfl (by kernel_rfl) (impl_cons (impl_at 0 rfl) impl_nil) rfl ?_; rintro _ _ _ ⟨of9, hof9, rfl, rfl, rfl⟩; refine ⟨keepI [0, 1, 4, 5, 6] rfl, ?_⟩
  refine cal (RCheck_ct (Sai.con s) ((of9).vs) ms (Ow.vs_ok hof9) (by omega)) [] [0, 1, 2, 3] [_, _, _, _] rfl rfl rfl (by kernel_rfl) (impl_cons (ow_impl 6 rfl) impl_nil) rfl ?_; rintro _ _ _ ⟨rfl, rfl, rfl⟩; refine ⟨keepI [0, 1, 4, 5, 6] rfl, ?_⟩
  refine cmp _ rfl rfl rfl ?_
  refine j_re 11 (.bool true) (congrArg Value.bool (decide_eq_true (chk_same s.con ms))) ?_
  refine mv (.bool _) rfl ?_
  refine g_on rfl rfl rfl ?_
  refine ldw 1 _ rfl rfl ty30 ?_
  refine g_on rfl rfl rfl ?_
  refine cal (Check_ct (⟨(1 : Int), ([104, 105] : Str), (⟨0⟩ : F64), (⟨0⟩ : F64), (1 : UInt64), (zarr : (Arr UInt8 32))⟩ : Con) (⟨true, 0, 0, 0, none⟩ : Vs) ([] : List UInt32) nilrow_ok (by simp)) [] [0, 1, 2, 3] [_, _, _, _] rfl rfl rfl (by kernel_rfl) (impl_cons impl_nilrow (impl_cons (impl_at 1 rfl) (impl_cons (impl_at 2 rfl) impl_nil))) rfl ?_; rintro _ _ _ ⟨rfl, rfl, rfl⟩; refine ⟨keepI [0, 1, 4, 5, 6] rfl, ?_⟩
  refine g_on rfl rfl rfl ?_
  refine cmp _ rfl rfl rfl ?_
  refine j_re 15 (.bool true) (congrArg Value.bool (decide_eq_true chk_hi)) ?_
  refine pkt (.bool _) rfl rfl ?_
  refine asg (.bool _) rfl ?_
  refine jt ?_
  refine c_ret ?_
  exact j_end (own0 := []) (ro0 := [sm.seg ms, tFirst 1, tAcc 2]) (.inl rfl) rfl (hr1 Tryd.results3 (rvt (v := (.bool _)) rfl)) [] [0, 1, 2, 3] [] [_, _, _, _] [] _ rfl rfl (by kernel_rfl) rfl impl_nil (⟨rfl, rfl, rfl⟩)
end Go.Proofs.YthpbiamicidakaaDoor
