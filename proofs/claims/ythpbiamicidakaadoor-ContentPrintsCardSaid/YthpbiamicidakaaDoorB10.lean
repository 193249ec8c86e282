/- Contracts of the program's functions, walked. No condition. -/
import Derived.Test.YthpbiamicidakaaDoorB9
namespace Go.Proofs.YthpbiamicidakaaDoor
open Go Go.Proofs Go.PW
open Go.PW.Enc (enc val)


set_option maxRecDepth 20000 in
set_option maxHeartbeats 4000000 in
theorem ContentPrints_ct (s : Sai) (sm : Vs) (ms : List UInt32) (hm : sm.ok ms) (hb : ms.length ≤ 35184372088832) : Ct Tryd.prog 4 [.agg ⟨cat [pt s.kind, pt s.text, p1 (.slice sm.adr ms.length sm.cap), pt s.lat, pt s.long, pt s.number, pt s.key]⟩] [] [sm.seg ms, tFirst 1, tAcc 2, tPow10 3, tDb64 8] (fun v o r => v = .bool true ∧ o = [] ∧ r = []) := by
  refine ct_enter Tryd.func4 rfl Tryd.ntmps4 (by kernel_rfl) rfl fun w0 => ?_
  refine c_seq ?_
  refine c_reg ?_
  refine bxx [pt s.kind, pt s.text, p1 (.slice sm.adr ms.length sm.cap), pt s.lat, pt s.long, pt s.number, pt s.key] _ rfl rfl fun b1 => ⟨trivial, ?_⟩
  refine asg (.bool _) rfl ?_
  refine jt ?_
  refine c_seq ?_
  refine c_reg ?_
  refine ldw 0 _ rfl rfl ty27 ?_
  refine cal (of_ct s sm ms hm hb) [] [0] [_] rfl rfl rfl (by kernel_rfl) (impl_cons (impl_at 0 rfl) impl_nil) rfl ?_; rintro _ _ _ ⟨of9, hof9, rfl, rfl, rfl⟩; refine ⟨trivial, ?_⟩
  refine alo [pt (0 : Int), pt ([] : Str), p1 (.slice none 0 0), pt (⟨0⟩ : F64), pt (⟨0⟩ : F64), pt (0 : UInt64), pt (zarr : (Arr UInt8 32))] _ z30 rfl fun b3 => ⟨trivial, ?_⟩
  refine stw 2 _ [pt (Sai.con s).kind, pt (Sai.con s).text, p1 (.slice of9.adr ms.length of9.cap), pt (Sai.con s).lat, pt (Sai.con s).long, pt (Sai.con s).number, pt (Sai.con s).key] rfl rfl rfl rfl ty30 ⟨trivial, ?_⟩
  refine jt ?_
  refine c_seq ?_
  refine c_reg ?_
  refine ldw 2 _ rfl rfl ty30 ?_
  refine cal (Print_ct (Sai.con s) ((of9).vs) ms (Ow.vs_ok hof9) (by omega)) [] [0, 1, 2] [_, _, _] rfl rfl rfl (by kernel_rfl) (impl_cons (ow_impl 6 rfl) (impl_cons (impl_at 1 rfl) (impl_cons (impl_at 2 rfl) (impl_cons (impl_at 3 rfl) (impl_cons (impl_at 4 rfl) impl_nil))))) rfl ?_; rintro _ _ _ ⟨rfl, rfl, rfl⟩; refine ⟨trivial, ?_⟩
  refine mv (.tuple _) rfl ?_
  refine xtr (.string _) rfl rfl ?_
  refine xtr (.int _ _) rfl rfl ?_
  refine asg (.string _) rfl ?_
  refine asg (.int _ _) rfl ?_
  refine jt ?_
  refine c_seq ?_
  refine c_reg ?_
  refine ldw 0 _ rfl rfl ty27 ?_
  refine cal (of_ct s sm ms hm hb) [] [0, 1, 2] [_, _, _] rfl rfl rfl (by kernel_rfl) (impl_cons (impl_at 0 rfl) impl_nil) rfl ?_; rintro _ _ _ ⟨of17, hof17, rfl, rfl, rfl⟩; refine ⟨trivial, ?_⟩
  refine cal (RPrint_ct (Sai.con s) ((of17).vs) ms (Ow.vs_ok hof17) (by omega)) [] [0, 1, 2, 3] [_, _, _, _] rfl rfl rfl (by kernel_rfl) (impl_cons (ow_impl 8 rfl) (impl_cons (impl_at 3 rfl) (impl_cons (impl_at 4 rfl) impl_nil))) rfl ?_; rintro _ _ _ ⟨rfl, rfl, rfl⟩; refine ⟨trivial, ?_⟩
  refine mv (.tuple _) rfl ?_
  refine xtr (.string _) rfl rfl ?_
  refine xtr (.int _ _) rfl rfl ?_
  refine asg (.string _) rfl ?_
  refine asg (.int _ _) rfl ?_
  refine jt ?_
  refine c_seq ?_
  refine c_dr [_, _, _, _, _, _, _, _, _] [] [(0, 0), (1, 0), (2, 0), (3, 0), (4, 0), (5, 0), (6, 0), (7, 0), (8, 0), (9, 0), (10, 0), (11, 1), (12, 1), (13, 0), (14, 0)] follows (by kernel_rfl) calm_body (keepS [0, 1, 2, 3, 4, 5, 6, 7, 8] rfl) ?_
  refine mv (.string _) rfl ?_
  refine mv (.string _) rfl ?_
  refine scmp (a := (printV (Sai.con s) ms)) (b := (printV (Sai.con s) ms)) _ rfl rfl Tryd.underlying9 rfl ?_
  refine j_re 23 (.bool true) (congrArg Value.bool (decide_eq_true rfl)) ?_
  refine mv (.bool _) rfl ?_
  refine g_on rfl rfl rfl ?_
  refine mv (.int _ _) rfl ?_
  refine g_on rfl rfl rfl ?_
  refine mv (.int _ _) rfl ?_
  refine g_on rfl rfl rfl ?_
  refine cmp _ rfl rfl rfl ?_
  refine j_re 27 (.bool true) (congrArg Value.bool (decide_eq_true (chk_same s.con ms))) ?_
  refine pkt (.bool _) rfl rfl ?_
  refine mv (.bool _) rfl ?_
  refine g_on rfl rfl rfl ?_
  refine ldw 2 _ rfl rfl ty30 ?_
  refine g_on rfl rfl rfl ?_
  refine ldw 0 _ rfl rfl ty27 ?_
  refine g_on rfl rfl rfl ?_
  refine cal (of_ct s sm ms hm hb) [] [0, 1, 2, 3] [_, _, _, _] rfl rfl rfl (by kernel_rfl) (impl_cons (impl_at 0 rfl) impl_nil) rfl ?_; rintro _ _ _ ⟨of32, hof32, rfl, rfl, rfl⟩; refine ⟨keepI [0, 1, 2, 3, 5, 6, 7, 8, 9] rfl, ?_⟩
  refine g_on rfl rfl rfl ?_
  refine cal (alike_ct (Sai.con s) ((of9).vs) ms (Ow.vs_ok hof9) (Sai.con s) ((of32).vs) ms (Ow.vs_ok hof32) (by omega)) [] [0, 1, 2, 3, 4] [_, _, _, _, _] rfl rfl rfl (by kernel_rfl) (impl_cons (ow_impl 6 rfl) (impl_cons (ow_impl 9 rfl) impl_nil)) rfl ?_; rintro _ _ _ ⟨rfl, rfl, rfl⟩; refine ⟨keepI [0, 1, 2, 3, 5, 6, 7, 8, 9] rfl, ?_⟩
  refine j_re 33 (.bool true) (congrArg Value.bool (alike_refl s.con ms)) ?_
  refine pkt (.bool _) rfl rfl ?_
  refine asg (.bool _) rfl ?_
  refine jt ?_
  refine c_ret ?_
  exact j_end (own0 := []) (ro0 := [sm.seg ms, tFirst 1, tAcc 2, tPow10 3, tDb64 8]) (.inl rfl) rfl (hr1 Tryd.results4 (rvt (v := (.bool _)) rfl)) [] [0, 1, 2, 3, 4] [] [_, _, _, _, _] [] _ rfl rfl (by kernel_rfl) rfl impl_nil (⟨rfl, rfl, rfl⟩)
end Go.Proofs.YthpbiamicidakaaDoor
