/- Contracts of the program's functions, walked. No condition. -/
import Derived.Test.YtacfjmjcgolhfaaA5
namespace Go.Proofs.Ytacfjmjcgolhfaa
open Go Go.Proofs Go.PW
open Go.PW.Enc (enc val)


set_option maxRecDepth 20000 in
set_option maxHeartbeats 4000000 in
theorem lives_ct  : Ct Try.prog 9 [] [] [] (fun v w r => v = .bool true ∧ w = [] ∧ r = []) := by
  refine ct_enter Try.func9 rfl Try.ntmps9 (by kernel_rfl) rfl fun w0 => ?_
  refine c_seq ?_
  refine c_reg ?_
  refine asg (.bool _) rfl ?_
  refine jt ?_
  refine c_seq ?_
  refine c_reg ?_
  refine cal (New_ok 2 (by omega)) [] [] [] rfl rfl rfl (by kernel_rfl) impl_nil rfl ?_; rintro _ _ _ ⟨bs8, m8, rfl, rfl, rfl⟩; refine ⟨trivial, ?_⟩
  refine mv (.tuple _) rfl ?_
  refine xtr (.pointer _) rfl rfl ?_
  refine xtr (.int _ _) rfl rfl ?_
  refine asg (.pointer _) rfl ?_
  refine asg (.int _ _) rfl ?_
  refine jt ?_
  refine c_seq ?_
  refine c_seq ?_
  refine c_reg ?_
  refine mv (.pointer _) rfl ?_
  refine eqpn false rfl rfl Try.underlying24 rfl ?_
  refine mv (.bool _) rfl ?_
  refine g_on rfl rfl rfl ?_
  refine mv (.int _ _) rfl ?_
  refine g_on rfl rfl rfl ?_
  refine cmp false rfl rfl rfl ?_
  refine pkf (.bool _) rfl rfl ?_
  refine mv (.bool _) rfl ?_
  refine g_on rfl rfl rfl ?_
  refine mv (.pointer _) rfl ?_
  refine g_on rfl rfl rfl ?_
  refine cal (spareOf_ct (1 : UInt8) (5 : UInt8) (1 : UInt32)) [] [0, 1, 2] [_, _, _] rfl rfl rfl (by kernel_rfl) impl_nil rfl ?_; rintro _ _ _ ⟨rfl, rfl, rfl⟩; refine ⟨trivial, ?_⟩
  refine g_on rfl rfl rfl ?_
  refine cal (spareOf_ct (2 : UInt8) (6 : UInt8) (1 : UInt32)) [] [0, 1, 2] [_, _, _] rfl rfl rfl (by kernel_rfl) impl_nil rfl ?_; rintro _ _ _ ⟨rfl, rfl, rfl⟩; refine ⟨trivial, ?_⟩
  refine g_on rfl rfl rfl ?_
  refine bsl (α := Spare) ([(spo (1 : UInt8) (1 : UInt32) (5 : UInt8)), (spo (2 : UInt8) (1 : UInt32) (6 : UInt8))]) Try.underlying22 ty33.sz rfl (by decide) z33 rfl fun b21 => ⟨trivial, ?_⟩
  refine g_on rfl rfl rfl ?_
  refine cal (Put_is bs8 m8 Ow.nil 2 ([] : List Spare) Ow.nil_ok (by omega) (by decide) (by decide) (⟨false, b21, 0, 2, none⟩ : Vs) ([(spo (1 : UInt8) (1 : UInt32) (5 : UInt8)), (spo (2 : UInt8) (1 : UInt32) (6 : UInt8))] : List Spare) (freshrow_ok b21 ([(spo (1 : UInt8) (1 : UInt32) (5 : UInt8)), (spo (2 : UInt8) (1 : UInt32) (6 : UInt8))] : List Spare)) (by decide) (z := 0) (l2 := [spo 1 1 5, spo 2 1 6]) (by kernel_rfl) (by kernel_rfl)) [0, 1, 2] [3] [_] rfl rfl rfl (by kernel_rfl) (impl_cons (impl_fresh 0 rfl) impl_nil) rfl ?_; rintro _ _ _ ⟨o22, ho22, rfl, rfl, rfl⟩; refine ⟨trivial, ?_⟩
  refine g_on rfl rfl rfl ?_
  refine cmp false rfl rfl rfl ?_
  refine pkf (.bool _) rfl rfl ?_
  refine jt ?_
  refine c_false rfl ?_
  refine c_skip ?_
  refine e_then ?_
  refine c_seq ?_
  refine c_reg ?_
  refine mv (.pointer _) rfl ?_
  refine bldA (α := UInt8) ((zarr : Key).l) [(0, ((2 : UInt8) : UInt8))] Try.underlying30 ty5.sz z30 rfl rfl rfl ?_
  refine cal (Find_is bs8 m8 o22 2 ([spo 1 1 5, spo 2 1 6]) ho22 (Arr.set (zarr : Key) 0 (2 : UInt8)) (1 : UInt32) (z := some (Arr.set (zarr : Key) 0 (6 : UInt8))) (k := Arr.set (zarr : Key) 0 (6 : UInt8)) (f := true) (by kernel_rfl) rfl rfl) [] [0, 1, 2, 3] [_, _, _, _] rfl rfl rfl (by kernel_rfl) (impl_cons (impl_at 1 rfl) (impl_cons (impl_at 2 rfl) (impl_cons (impl_at 3 rfl) impl_nil))) rfl ?_; rintro _ _ _ ⟨rfl, rfl, rfl⟩; refine ⟨trivial, ?_⟩
  refine mv (.tuple _) rfl ?_
  refine xtr (.agg _) rfl rfl ?_
  refine xtr (.bool _) rfl rfl ?_
  refine alo [pt (zarr : Key)] _ z30 rfl fun b3 => ⟨trivial, ?_⟩
  refine stw 4 _ [pt (Arr.set (zarr : Key) 0 (6 : UInt8))] rfl rfl rfl rfl ty30 ⟨trivial, ?_⟩
  refine asg (.bool _) rfl ?_
  refine jt ?_
  refine c_seq ?_
  refine c_reg ?_
  refine mv (.pointer _) rfl ?_
  refine bldA (α := UInt8) ((zarr : Key).l) [(0, ((2 : UInt8) : UInt8))] Try.underlying30 ty5.sz z30 rfl rfl rfl ?_
  refine cal (Find_is bs8 m8 o22 2 ([spo 1 1 5, spo 2 1 6]) ho22 (Arr.set (zarr : Key) 0 (2 : UInt8)) (2 : UInt32) (z := none) (k := zarr) (f := false) (by kernel_rfl) rfl rfl) [] [0, 1, 2, 3, 4] [_, _, _, _, _] rfl rfl rfl (by kernel_rfl) (impl_cons (impl_at 1 rfl) (impl_cons (impl_at 2 rfl) (impl_cons (impl_at 3 rfl) impl_nil))) rfl ?_; rintro _ _ _ ⟨rfl, rfl, rfl⟩; refine ⟨trivial, ?_⟩
  refine mv (.tuple _) rfl ?_
  refine xtr (.agg _) rfl rfl ?_
  refine xtr (.bool _) rfl rfl ?_
  refine alo [pt (zarr : Key)] _ z30 rfl fun b5 => ⟨trivial, ?_⟩
  refine stw 5 _ [pt (zarr)] rfl rfl rfl rfl ty30 ⟨trivial, ?_⟩
  refine asg (.bool _) rfl ?_
  refine jt ?_
  refine c_seq ?_
  refine c_reg ?_
  refine mv (.bool _) rfl ?_
  refine mv (.bool _) rfl ?_
  refine g_on rfl rfl rfl ?_
  refine mv (.bool _) rfl ?_
  refine g_on rfl rfl rfl ?_
  refine not_ rfl ?_
  refine pkt (.bool _) rfl rfl ?_
  refine mv (.bool _) rfl ?_
  refine g_on rfl rfl rfl ?_
  refine ldp 4 0 _ rfl rfl rfl rfl ty30 ?_
  refine g_on rfl rfl rfl ?_
  refine bldA (α := UInt8) ((zarr : Key).l) [(0, ((6 : UInt8) : UInt8))] Try.underlying30 ty5.sz z30 rfl rfl rfl ?_
  refine g_on rfl rfl rfl ?_
  refine eqA (Arr.set (zarr : Key) 0 (6 : UInt8)) (Arr.set (zarr : Key) 0 (6 : UInt8)) true rfl rfl rfl rfl eq30 rfl Try.eqGuardType30 (by simp) ?_
  refine pkt (.bool _) rfl rfl ?_
  refine mv (.bool _) rfl ?_
  refine g_on rfl rfl rfl ?_
  refine mv (.pointer _) rfl ?_
  refine g_on rfl rfl rfl ?_
  refine cal (Len_ct bs8 m8 o22 2 ([spo 1 1 5, spo 2 1 6]) ho22) [] [0, 1, 2, 3, 4, 5] [_, _, _, _, _, _] rfl rfl rfl (by kernel_rfl) (impl_cons (impl_at 1 rfl) (impl_cons (impl_at 2 rfl) (impl_cons (impl_at 3 rfl) impl_nil))) rfl ?_; rintro _ _ _ ⟨rfl, rfl, rfl⟩; refine ⟨trivial, ?_⟩
  refine g_on rfl rfl rfl ?_
  refine cmp true rfl rfl rfl ?_
  refine pkt (.bool _) rfl rfl ?_
  refine mv (.bool _) rfl ?_
  refine g_on rfl rfl rfl ?_
  refine mv (.pointer _) rfl ?_
  refine g_on rfl rfl rfl ?_
  refine cal (Room_ct bs8 m8 o22 2 ([spo 1 1 5, spo 2 1 6]) ho22 (by omega) (by decide)) [] [0, 1, 2, 3, 4, 5] [_, _, _, _, _, _] rfl rfl rfl (by kernel_rfl) (impl_cons (impl_at 1 rfl) (impl_cons (impl_at 2 rfl) (impl_cons (impl_at 3 rfl) impl_nil))) rfl ?_; rintro _ _ _ ⟨rfl, rfl, rfl⟩; refine ⟨trivial, ?_⟩
  refine g_on rfl rfl rfl ?_
  refine cmp true rfl rfl rfl ?_
  refine pkt (.bool _) rfl rfl ?_
  refine mv (.bool _) rfl ?_
  refine g_on rfl rfl rfl ?_
  refine mv (.pointer _) rfl ?_
  refine g_on rfl rfl rfl ?_
  refine cal (spareOf_ct (3 : UInt8) (7 : UInt8) (1 : UInt32)) [] [0, 1, 2, 3, 4, 5] [_, _, _, _, _, _] rfl rfl rfl (by kernel_rfl) impl_nil rfl ?_; rintro _ _ _ ⟨rfl, rfl, rfl⟩; refine ⟨trivial, ?_⟩
  refine g_on rfl rfl rfl ?_
  refine bsl (α := Spare) ([(spo (3 : UInt8) (1 : UInt32) (7 : UInt8))]) Try.underlying22 ty33.sz rfl (by decide) z33 rfl fun b60 => ⟨trivial, ?_⟩
  refine g_on rfl rfl rfl ?_
  refine cal (Put_is bs8 m8 o22 2 ([spo 1 1 5, spo 2 1 6]) ho22 (by omega) (by decide) (by decide) (⟨false, b60, 0, 1, none⟩ : Vs) ([(spo (3 : UInt8) (1 : UInt32) (7 : UInt8))] : List Spare) (freshrow_ok b60 ([(spo (3 : UInt8) (1 : UInt32) (7 : UInt8))] : List Spare)) (by decide) (z := 120) (l2 := [spo 1 1 5, spo 2 1 6]) (by kernel_rfl) (by kernel_rfl)) [1, 2, 3] [0, 4, 5, 6] [_, _, _, _] rfl rfl rfl (by kernel_rfl) (impl_cons (impl_fresh 3 rfl) impl_nil) rfl ?_; rintro _ _ _ ⟨o61, ho61, rfl, rfl, rfl⟩; refine ⟨trivial, ?_⟩
  refine g_on rfl rfl rfl ?_
  refine cmp true rfl rfl rfl ?_
  refine pkt (.bool _) rfl rfl ?_
  refine mv (.bool _) rfl ?_
  refine g_on rfl rfl rfl ?_
  refine mv (.pointer _) rfl ?_
  refine g_on rfl rfl rfl ?_
  refine cal (spareOf_ct (1 : UInt8) (7 : UInt8) (1 : UInt32)) [] [0, 1, 2, 3, 4, 5, 6] [_, _, _, _, _, _, _] rfl rfl rfl (by kernel_rfl) impl_nil rfl ?_; rintro _ _ _ ⟨rfl, rfl, rfl⟩; refine ⟨trivial, ?_⟩
  refine g_on rfl rfl rfl ?_
  refine bsl (α := Spare) ([(spo (1 : UInt8) (1 : UInt32) (7 : UInt8))]) Try.underlying22 ty33.sz rfl (by decide) z33 rfl fun b67 => ⟨trivial, ?_⟩
  refine g_on rfl rfl rfl ?_
  refine cal (Put_is bs8 m8 o61 2 ([spo 1 1 5, spo 2 1 6]) ho61 (by omega) (by decide) (by decide) (⟨false, b67, 0, 1, none⟩ : Vs) ([(spo (1 : UInt8) (1 : UInt32) (7 : UInt8))] : List Spare) (freshrow_ok b67 ([(spo (1 : UInt8) (1 : UInt32) (7 : UInt8))] : List Spare)) (by decide) (z := 121) (l2 := [spo 1 1 5, spo 2 1 6]) (by kernel_rfl) (by kernel_rfl)) [4, 5, 6] [0, 1, 2, 3, 7] [_, _, _, _, _] rfl rfl rfl (by kernel_rfl) (impl_cons (impl_fresh 4 rfl) impl_nil) rfl ?_; rintro _ _ _ ⟨o68, ho68, rfl, rfl, rfl⟩; refine ⟨trivial, ?_⟩
  refine g_on rfl rfl rfl ?_
  refine cmp true rfl rfl rfl ?_
  refine pkt (.bool _) rfl rfl ?_
  refine asg (.bool _) rfl ?_
  refine jt ?_
  refine c_ret ?_
  exact j_end (own0 := []) (ro0 := []) (.inl rfl) rfl (hr1 Try.results9 (rvt (v := (.bool _)) rfl)) [] [0, 1, 2, 3, 4, 5, 6, 7] [] [_, _, _, _, _, _, _, _] [] _ rfl rfl (by kernel_rfl) rfl impl_nil (⟨rfl, rfl, rfl⟩)
end Go.Proofs.Ytacfjmjcgolhfaa
