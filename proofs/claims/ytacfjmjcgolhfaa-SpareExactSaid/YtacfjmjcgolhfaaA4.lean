/- Contracts of the program's functions, walked. No condition. -/
import Derived.Test.YtacfjmjcgolhfaaA3
import Derived.Test.YtacfjmjcgolhfaaEk
namespace Go.Proofs.Ytacfjmjcgolhfaa
open Go Go.Proofs Go.PW
open Go.PW.Enc (enc val)
theorem lay76 : ∀ fs, Try.prog.underlying 76 = some (.struct fs) → Lay Try.prog fs [(0, 1), (1, 1), (2, 1)] := fun fs h => by rw [Try.underlying76] at h; cases h; unfold Lay; kernel_rfl
theorem z76 : Zt Try.prog 76 (.agg ⟨cat [p1 (.int .i64 0), p1 (.map none), p1 (.slice none 0 0)]⟩) := by unfold Zt; kernel_rfl
theorem ty5 : Ty Try.prog 5 1 false := ⟨by kernel_rfl, by kernel_rfl⟩
def spo (h : UInt8) (n : UInt32) (m : UInt8) : Spare := ⟨Arr.set zarr 0 h, n, Arr.set zarr 0 m⟩
theorem ow_impl {α : Type} [Enc α] {o : Ow} {xs : List α} {E : Nat} {src : List Seg} (j : Nat) (hs : src[j]? = some (o.seg xs E)) : Impl src [o.vs.seg xs] := by
  intro t ht p hp
  rw [List.mem_singleton] at ht; subst ht
  cases hn : o.nl with
  | true => simp [Vs.seg, Ow.vs, hn] at hp
  | false =>
    have e : o.vs.seg xs = [(o.b, .view 0 (encs xs))] := by simp [Vs.seg, Ow.vs, hn]
    have hs' : src[j]? = some [(o.b, .cells (encs xs ++ o.sp) E)] := by rw [hs]; simp [Ow.seg, hn]
    rw [e] at hp
    exact impl_view (l := encs xs) (off := 0) j hs' ⟨[], o.sp, by simp, rfl⟩ _ (List.mem_singleton.2 rfl) p hp
theorem impl_trans {a b c : List Seg} (h1 : Impl a b) (h2 : Impl b c) : Impl a c := fun s hs p hp => by
  obtain ⟨s', hs', p', hp', e, hk⟩ := h2 s hs p hp
  obtain ⟨s2, hs2, p2, hp2, e2, hk2⟩ := h1 s' hs' p' hp'
  exact ⟨s2, hs2, p2, hp2, e2.trans e, fun o ho => hk o (hk2 o ho)⟩
theorem ow_sub {α : Type} [Enc α] {o : Ow} {xs : List α} {E : Nat} (h : o.ok xs) (l m : Nat) (hm : l + m ≤ xs.length) {src : List Seg} (j : Nat) (hs : src[j]? = some (o.seg xs E)) : Impl src [(o.vs.sub l (Enc.n α)).seg ((xs.drop l).take m)] :=
  impl_trans (ow_impl j hs) (Vs.sub_impl (Ow.vs_ok h) l m hm 0 rfl)

theorem SlClone_ct (s : Vs) (xs : List SpP) (hs : s.ok xs) (hx : xs.length ≤ 2000) : Ct Try.prog 43 [s.v xs.length] [] [s.seg xs] (fun v w r => ∃ o' : Ow, o'.ok xs ∧ v = .slice o'.adr xs.length o'.cap ∧ w = [o'.seg xs 72] ∧ r = []) := by
  refine ct_enter Try.func43 rfl Try.ntmps43 (by kernel_rfl) rfl fun w0 => ?_
  refine c_seq ?_
  refine c_reg ?_
  refine asg (.slice _ _ _) rfl ?_
  refine jt ?_
  refine c_seq ?_
  refine c_seq ?_
  refine c_reg ?_
  refine mv (.slice _ _ _) rfl ?_
  refine eqsn _ rfl rfl Try.underlying74 rfl ?_
  refine jt ?_
  refine c_cond rfl (fun h1 => ?_) (fun h1 => ?_)
  · refine c_seq ?_
    refine c_reg ?_
    refine asg (.slice _ _ _) rfl ?_
    refine jt ?_
    refine c_ret ?_
    refine e_addE ?_
    exact j_end (own0 := []) (ro0 := [s.seg xs]) (.inl rfl) rfl (hr1 Try.results43 (rvt (v := (.slice _ _ _)) rfl)) [0] [] [_] [] [] _ rfl rfl (by kernel_rfl) rfl impl_nil (by have hn : s.nl = true := (by unfold Vs.adr at h1; cases hb : s.nl with | true => rfl | false => rw [hb] at h1; simp at h1); have hx0 := hs.nl hn; subst hx0; exact ⟨Ow.nil, Ow.nil_ok, rfl, rfl, rfl⟩)
  · refine c_skip ?_
    refine e_then ?_
    refine c_seq ?_
    refine c_reg ?_
    refine bsl (α := SpP) ([]) Try.underlying74 ty72.sz rfl (by decide) z72 rfl fun b5 => ⟨trivial, ?_⟩
    refine mv (.slice _ _ _) rfl ?_
    refine app 0 (⟨false, b5, 0, []⟩) ([] : List SpP) xs (⟨by simp, fun _ => rfl, Nat.le_refl _⟩) rfl ⟨rfl, rfl, rfl⟩ rfl rfl (gives_vs 1 hs rfl) Try.underlying74 Try.underlying74 (.inl ⟨_, rfl⟩) ty72.sz by72 z72 rfl (by simp; omega) rfl fun o7_1 hk7_1 => ⟨trivial, ?_⟩
    refine asg (.slice _ _ _) rfl ?_
    refine jt ?_
    refine c_ret ?_
    exact j_end (own0 := []) (ro0 := [s.seg xs]) (.inl rfl) rfl (hr1 Try.results43 (rvt (v := (.slice _ _ _)) rfl)) [0] [] [_] [] [] _ rfl rfl (by kernel_rfl) rfl impl_nil (⟨o7_1, by simpa using hk7_1, by simp, by simp, rfl⟩)

theorem MpClone_ct (m : Nat) (kv : List (SpP × Key)) : Ct Try.prog 44 [.map (some m)] [] [[(m, .pred (isMap kv))]] (fun v w r => ∃ m', v = .map (some m') ∧ w = [[(m', .pred (isMap kv))]] ∧ r = []) := by
  refine ct_enter Try.func44 rfl Try.ntmps44 (by kernel_rfl) rfl fun w0 => ?_
  refine c_seq ?_
  refine c_reg ?_
  refine asg (.map _) rfl ?_
  refine jt ?_
  refine c_seq ?_
  refine c_seq ?_
  refine c_reg ?_
  refine mv (.map _) rfl ?_
  refine eqmn false rfl rfl Try.underlying70 rfl ?_
  refine jt ?_
  refine c_false rfl ?_
  refine c_skip ?_
  refine e_then ?_
  refine c_seq ?_
  refine c_reg ?_
  refine mv (.map _) rfl ?_
  refine mki (v := (.map _)) rfl Try.underlying70 rfl ?_
  refine mcl 0 kv Try.func55 (by kernel_rfl) (by kernel_rfl) (by kernel_rfl) (fun a w => rfl) (by kernel_rfl) rfl rfl fun m7 => ⟨trivial, ?_⟩
  refine tas (v := (.map _)) rfl Try.underlying70 rfl ?_
  refine asg (.map _) rfl ?_
  refine jt ?_
  refine c_ret ?_
  exact j_end (own0 := []) (ro0 := [[(m, .pred (isMap kv))]]) (.inl rfl) rfl (hr1 Try.results44 (rvt (v := (.map _)) rfl)) [0] [] [_] [] [] _ rfl rfl (by kernel_rfl) rfl impl_nil (⟨_, rfl, rfl, rfl⟩)

theorem Clone_ct (bs m : Nat) (o : Ow) (most : Int) (l : List Spare) (ho : o.ok (List.map plc l)) (hl : l.length ≤ 2000) : Ct Try.prog 23 [.pointer (some ⟨bs, 0, none⟩)] [] [[(bs, .cells (cat [p1 (.int .i64 most), p1 (.map (some m)), p1 (.slice o.adr (List.map plc l).length o.cap)]) 76)], [(m, .pred (isMap (List.map skv l)))], o.seg (List.map plc l) 72] (fun v w r => ∃ (bs m : Nat) (o' : Ow), o'.ok (List.map plc l) ∧ v = .pointer (some ⟨bs, 0, none⟩) ∧ w = [[(bs, .cells (cat [p1 (.int .i64 most), p1 (.map (some m)), p1 (.slice o'.adr (List.map plc l).length o'.cap)]) 76)], [(m, .pred (isMap (List.map skv l)))], o'.seg (List.map plc l) 72] ∧ r = []) := by
  refine ct_enter Try.func23 rfl Try.ntmps23 (by kernel_rfl) rfl fun w0 => ?_
  refine c_seq ?_
  refine c_reg ?_
  refine asg (.pointer _) rfl ?_
  refine jt ?_
  refine c_seq ?_
  refine c_dr [_, _, _] [] [(0, 0), (1, 0), (2, 0), (3, 0), (4, 0), (5, 0), (6, 0), (7, 0), (9, 0), (10, 0), (11, 0), (12, 0), (8, 1), (13, 1), (14, 0), (15, 1), (16, 0)] follows (by kernel_rfl) calm_body (keepS [0, 1, 2] rfl) ?_
  refine mv (.pointer _) rfl ?_
  refine nlc rfl ?_
  refine fad rfl Try.underlying76 rfl ty3.sz ?_
  refine ldp 0 0 _ rfl rfl rfl rfl ty3 ?_
  refine mv (.pointer _) rfl ?_
  refine nlc rfl ?_
  refine fad rfl Try.underlying76 rfl ty70.sz ?_
  refine ldp 0 1 _ rfl rfl rfl rfl ty70 ?_
  refine mv (.pointer _) rfl ?_
  refine nlc rfl ?_
  refine fad rfl Try.underlying76 rfl ty74.sz ?_
  refine ldp 0 2 _ rfl rfl rfl rfl ty74 ?_
  refine cal (MpClone_ct m (List.map skv l)) [] [] [] rfl rfl rfl (by kernel_rfl) (implI [1] rfl) rfl ?_; rintro _ _ _ ⟨m11, rfl, rfl, rfl⟩; refine ⟨keepI [1, 2, 3] rfl, ?_⟩
  refine cal (SlClone_ct ((o).vs) (List.map plc l) (Ow.vs_ok ho) (by simp; omega)) [] [0] [_] rfl rfl rfl (by kernel_rfl) (ow_impl 2 rfl) rfl ?_; rintro _ _ _ ⟨o16, ho16, rfl, rfl, rfl⟩; refine ⟨keepI [2, 3, 4] rfl, ?_⟩
  refine bld [p1 (.int .i64 0), p1 (.map none), p1 (.slice none 0 0)] [(0, p1 (.int .i64 most)), (1, p1 (.map (some m11))), (2, p1 (.slice o16.adr (List.map plc l).length o16.cap))] _ Try.underlying76 (lay76 _ Try.underlying76) z76 rfl rfl rfl ?_
  refine bxx [p1 (.int .i64 most), p1 (.map (some m11)), p1 (.slice o16.adr (List.map plc l).length o16.cap)] _ rfl rfl fun b18 => ⟨keepI [3, 4, 5] rfl, ?_⟩
  refine asg (.pointer _) rfl ?_
  refine jt ?_
  refine c_ret ?_
  exact j_end (own0 := []) (ro0 := [[(bs, .cells (cat [p1 (.int .i64 most), p1 (.map (some m)), p1 (.slice o.adr (List.map plc l).length o.cap)]) 76)], [(m, .pred (isMap (List.map skv l)))], o.seg (List.map plc l) 72]) (.inl rfl) rfl (hr1 Try.results23 (rvt (v := (.pointer _)) rfl)) [2, 0, 1] [] [_, _, _] [] [] _ rfl rfl (by kernel_rfl) rfl impl_nil (⟨_, _, o16, ho16, rfl, rfl, rfl⟩)

theorem New_ct (most : Int) : Ct Try.prog 18 [.int .i64 most] [] [] (fun v w r => ((0 ≤ most ∧ most ≤ 2000) ∧ ∃ (bs m : Nat), v = .tuple #[.pointer (some ⟨bs, 0, none⟩), .int .i64 0] ∧ w = [[(bs, .cells (cat [p1 (.int .i64 most), p1 (.map (some m)), p1 (.slice Ow.nil.adr (List.map plc ([] : List Spare)).length Ow.nil.cap)]) 76)], [(m, .pred (isMap (List.map skv ([] : List Spare))))], Ow.nil.seg (List.map plc ([] : List Spare)) 72] ∧ r = []) ∨ (¬ (0 ≤ most ∧ most ≤ 2000) ∧ v = .tuple #[.pointer none, .int .i64 1] ∧ w = [] ∧ r = [])) := by
  refine ct_enter Try.func18 rfl Try.ntmps18 (by kernel_rfl) rfl fun w0 => ?_
  refine c_seq ?_
  refine c_reg ?_
  refine asg (.pointer _) rfl ?_
  refine asg (.int _ _) rfl ?_
  refine jt ?_
  refine c_seq ?_
  refine c_seq ?_
  refine c_reg ?_
  refine mv (.int _ _) rfl ?_
  refine cmp _ rfl rfl rfl ?_
  refine mv (.bool _) rfl ?_
  refine jsplit 6 rfl (fun h1 => ?_) (fun h1 => ?_)
  · replace h1 := of_decide_eq_true h1
    refine g_off rfl rfl rfl rfl ?_
    refine g_off rfl rfl rfl rfl ?_
    refine pkt (.bool _) rfl rfl ?_
    refine jt ?_
    refine c_true rfl ?_
    refine c_seq ?_
    refine c_reg ?_
    refine asg (.pointer _) rfl ?_
    refine asg (.int _ _) rfl ?_
    refine jt ?_
    refine c_ret ?_
    exact j_end (own0 := []) (ro0 := []) (.inl rfl) rfl (hr2 Try.results18 (rvt (v := (.pointer _)) rfl) (rvt (v := (.int _ _)) rfl)) [] [] [] [] [] _ rfl rfl (by kernel_rfl) rfl impl_nil (.inr ⟨by omega, rfl, rfl, rfl⟩)
  · replace h1 := of_decide_eq_false h1
    refine g_on rfl rfl rfl ?_
    refine mv (.int _ _) rfl ?_
    refine g_on rfl rfl rfl ?_
    refine cmp _ rfl rfl rfl ?_
    refine pkf (.bool _) rfl rfl ?_
    refine jt ?_
    refine c_cond rfl (fun h2 => ?_) (fun h2 => ?_)
    · replace h2 := of_decide_eq_true h2
      refine c_seq ?_
      refine c_reg ?_
      refine asg (.pointer _) rfl ?_
      refine asg (.int _ _) rfl ?_
      refine jt ?_
      refine c_ret ?_
      exact j_end (own0 := []) (ro0 := []) (.inl rfl) rfl (hr2 Try.results18 (rvt (v := (.pointer _)) rfl) (rvt (v := (.int _ _)) rfl)) [] [] [] [] [] _ rfl rfl (by kernel_rfl) rfl impl_nil (.inr ⟨by omega, rfl, rfl, rfl⟩)
    · replace h2 := of_decide_eq_false h2
      refine c_skip ?_
      refine e_then ?_
      refine c_seq ?_
      refine c_reg ?_
      refine mv (.int _ _) rfl ?_
      refine mkm (α := SpP) (β := Key) fun m11 => ⟨trivial, ?_⟩
      refine bld [p1 (.int .i64 0), p1 (.map none), p1 (.slice none 0 0)] [(0, p1 (.int .i64 most)), (1, p1 (.map (some m11)))] _ Try.underlying76 (lay76 _ Try.underlying76) z76 rfl rfl rfl ?_
      refine bxx [p1 (.int .i64 most), p1 (.map (some m11)), p1 (.slice none 0 0)] _ rfl rfl fun b13 => ⟨trivial, ?_⟩
      refine asg (.pointer _) rfl ?_
      refine asg (.int _ _) rfl ?_
      refine jt ?_
      refine c_ret ?_
      refine e_addE ?_
      exact j_end (own0 := []) (ro0 := []) (.inl rfl) rfl (hr2 Try.results18 (rvt (v := (.pointer _)) rfl) (rvt (v := (.int _ _)) rfl)) [1, 0, 2] [] [_, _, _] [] [] _ rfl rfl (by kernel_rfl) rfl impl_nil (.inl ⟨by omega, _, _, rfl, rfl, rfl⟩)

theorem spareOf_ct (h m : UInt8) (n : UInt32) : Ct Try.prog 29 [.int .u8 h.toNat, .int .u32 n.toNat, .int .u8 m.toNat] [] [] (fun v w r => v = val (spo h n m) ∧ w = [] ∧ r = []) := by
  refine ct_enter Try.func29 rfl Try.ntmps29 (by kernel_rfl) rfl fun w0 => ?_
  refine c_seq ?_
  refine c_reg ?_
  refine alo [pt (zarr : Key), p1 (.int .u32 0), pt (zarr : Key)] _ z33 rfl fun b6 => ⟨trivial, ?_⟩
  refine jt ?_
  refine c_seq ?_
  refine c_reg ?_
  refine mv (.int _ _) rfl ?_
  refine bldA (α := UInt8) ((zarr : Key).l) [(0, (h : UInt8))] Try.underlying30 ty5.sz z30 rfl rfl rfl ?_
  refine mv (.int _ _) rfl ?_
  refine mv (.int _ _) rfl ?_
  refine bldA (α := UInt8) ((zarr : Key).l) [(0, (m : UInt8))] Try.underlying30 ty5.sz z30 rfl rfl rfl ?_
  refine bld [pt (zarr : Key), p1 (.int .u32 0), pt (zarr : Key)] [(0, pt (Arr.set (zarr : Key) 0 h)), (1, pt n), (2, pt (Arr.set (zarr : Key) 0 m))] _ Try.underlying33 (lay33 _ Try.underlying33) z33 rfl rfl rfl ?_
  refine stw 0 _ [pt (Arr.set (zarr : Key) 0 h), pt n, pt (Arr.set (zarr : Key) 0 m)] rfl rfl rfl rfl ty33 ⟨trivial, ?_⟩
  refine jt ?_
  refine c_ret ?_
  exact j_end (own0 := []) (ro0 := []) (.inl rfl) rfl (hr1 Try.results29 (rvc (p := pa [pt (Arr.set (zarr : Key) 0 h), pt n, pt (Arr.set (zarr : Key) 0 m)]) 0 rfl rfl rfl ty33)) [] [0] [] [_] [] _ rfl rfl (by kernel_rfl) rfl impl_nil (⟨rfl, rfl, rfl⟩)
end Go.Proofs.Ytacfjmjcgolhfaa
