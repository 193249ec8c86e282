/- Contracts of the program's functions, walked. No condition. -/
import Derived.Test.YthpbiamicidakaaDoorB2
namespace Go.Proofs.YthpbiamicidakaaDoor
open Go Go.Proofs Go.PW
open Go.PW.Enc (enc val)
theorem ty76 : Ty Tryd.prog 76 1 false := ⟨by kernel_rfl, by kernel_rfl⟩
theorem ty78 : Ty Tryd.prog 78 2 true := ⟨by kernel_rfl, by kernel_rfl⟩
theorem ty50 : Ty Tryd.prog 50 1 false := ⟨by kernel_rfl, by kernel_rfl⟩
theorem z5 : Zt Tryd.prog 5 ((pt (0 : UInt8)).v) := by unfold Zt; kernel_rfl
theorem by5 : (Tryd.prog.info? 5).map (·.bytes) = some 1 := by kernel_rfl

theorem copyCheck0_ct (b : Nat) (ad : Option Addr) (n c : Nat) : Ct Tryd.prog 77 [.pointer (some ⟨b, 0, none⟩)] [[(b, .cells (cat [p1 (.pointer none), p1 (.slice ad n c)]) 78)]] [] (fun v o r => v = .tuple #[] ∧ o = [[(b, .cells (cat [p1 (.pointer (some ⟨b, 0, none⟩)), p1 (.slice ad n c)]) 78)]] ∧ r = []) := by
  refine ct_enter Tryd.func77 rfl Tryd.ntmps77 (by kernel_rfl) rfl fun w0 => ?_
  refine c_seq ?_
  refine c_reg ?_
  refine mv (.pointer _) rfl ?_
  refine nlc rfl ?_
  refine fad rfl Tryd.underlying78 rfl ty76.sz ?_
  refine ldp 0 0 _ rfl rfl rfl rfl ty76 ?_
  refine eqpn true rfl rfl Tryd.underlying76 rfl ?_
  refine jt ?_
  refine c_true rfl ?_
  refine c_reg ?_
  refine mv (.pointer _) rfl ?_
  refine mv (.pointer _) rfl ?_
  refine cvPU 0 rfl rfl (by simp [cat, p1]) Tryd.underlying76 Tryd.underlying131 ty78.sz ?_
  refine xcal (args := [.pointer (some ⟨b, 0, none⟩)]) (.pointer (some ⟨b, 0, none⟩)) Tryd.func96 (by kernel_rfl) (by kernel_rfl) (by kernel_rfl) (fun w => rfl) (by kernel_rfl) rfl ?_
  refine cvUP 0 rfl rfl Tryd.underlying131 Tryd.underlying76 (by kernel_rfl) (by kernel_rfl) ?_
  refine nlc rfl ?_
  refine fad rfl Tryd.underlying78 rfl ty76.sz ?_
  refine stp 0 0 _ (p1 (.pointer (some ⟨b, 0, none⟩))) rfl rfl rfl rfl rfl rfl ty76 ⟨trivial, ?_⟩
  refine jn ?_
  exact j_end (own0 := [[(b, .cells (cat [p1 (.pointer none), p1 (.slice ad n c)]) 78)]]) (ro0 := []) (.inr rfl) rfl (hr0 Tryd.results77) [0] [] [_] [] [] _ rfl rfl (by kernel_rfl) rfl impl_nil (⟨rfl, rfl, rfl⟩)

theorem copyCheck1_ct (b : Nat) (ad : Option Addr) (n c : Nat) : Ct Tryd.prog 77 [.pointer (some ⟨b, 0, none⟩)] [[(b, .cells (cat [p1 (.pointer (some ⟨b, 0, none⟩)), p1 (.slice ad n c)]) 78)]] [] (fun v o r => v = .tuple #[] ∧ o = [[(b, .cells (cat [p1 (.pointer (some ⟨b, 0, none⟩)), p1 (.slice ad n c)]) 78)]] ∧ r = []) := by
  refine ct_enter Tryd.func77 rfl Tryd.ntmps77 (by kernel_rfl) rfl fun w0 => ?_
  refine c_seq ?_
  refine c_reg ?_
  refine mv (.pointer _) rfl ?_
  refine nlc rfl ?_
  refine fad rfl Tryd.underlying78 rfl ty76.sz ?_
  refine ldp 0 0 _ rfl rfl rfl rfl ty76 ?_
  refine eqpn false rfl rfl Tryd.underlying76 rfl ?_
  refine jt ?_
  refine c_false rfl ?_
  refine c_seq ?_
  refine c_reg ?_
  refine mv (.pointer _) rfl ?_
  refine nlc rfl ?_
  refine fad rfl Tryd.underlying78 rfl ty76.sz ?_
  refine ldp 0 0 _ rfl rfl rfl rfl ty76 ?_
  refine mv (.pointer _) rfl ?_
  refine eqps false rfl rfl Tryd.underlying76 (by kernel_rfl) rfl ?_
  refine jt ?_
  refine c_false rfl ?_
  refine c_skip ?_
  exact j_end (own0 := [[(b, .cells (cat [p1 (.pointer (some ⟨b, 0, none⟩)), p1 (.slice ad n c)]) 78)]]) (ro0 := []) (.inr rfl) rfl (hr0 Tryd.results77) [0] [] [_] [] [] _ rfl rfl (by kernel_rfl) rfl impl_nil (⟨rfl, rfl, rfl⟩)

theorem copyCheck_ct (b : Nat) (a : Option Addr) (ha : a = none ∨ a = (some ⟨b, 0, none⟩)) (ad : Option Addr) (n c : Nat) : Ct Tryd.prog 77 [.pointer (some ⟨b, 0, none⟩)] [[(b, .cells (cat [p1 (.pointer a), p1 (.slice ad n c)]) 78)]] [] (fun v o r => v = .tuple #[] ∧ o = [[(b, .cells (cat [p1 (.pointer (some ⟨b, 0, none⟩)), p1 (.slice ad n c)]) 78)]] ∧ r = []) := by
  rcases ha with rfl | rfl
  · exact copyCheck0_ct b ad n c
  · exact copyCheck1_ct b ad n c

theorem bWriteByte_ct (b : Nat) (a : Option Addr) (ha : a = none ∨ a = (some ⟨b, 0, none⟩)) (o : Ow) (xs : Str) (ho : o.ok xs) (hb : xs.length ≤ 1000000000000) (c : UInt8) : Ct Tryd.prog 51 [.pointer (some ⟨b, 0, none⟩), .int .u8 (c.toNat : Int)] [[(b, .cells (cat [p1 (.pointer a), p1 (.slice o.adr xs.length o.cap)]) 78)], o.seg xs 5] [] (fun v w r => ∃ o' : Ow, o'.ok (xs ++ [c]) ∧ v = .nilIface ∧ w = [[(b, .cells (cat [p1 (.pointer (some ⟨b, 0, none⟩)), p1 (.slice o'.adr (xs ++ [c]).length o'.cap)]) 78)], o'.seg (xs ++ [c]) 5] ∧ r = []) := by
  refine ct_enter Tryd.func51 rfl Tryd.ntmps51 (by kernel_rfl) rfl fun w0 => ?_
  refine c_seq ?_
  refine c_reg ?_
  refine asg .nilIface rfl ?_
  refine jt ?_
  refine c_seq ?_
  refine c_reg ?_
  refine mv (.pointer _) rfl ?_
  refine cal (copyCheck_ct b _ ha _ _ _) [0] [1] [_] rfl rfl rfl (by kernel_rfl) impl_nil rfl ?_; rintro _ _ _ ⟨rfl, rfl, rfl⟩; refine ⟨trivial, ?_⟩
  refine jt ?_
  refine c_seq ?_
  refine c_reg ?_
  refine mv (.pointer _) rfl ?_
  refine mv (.pointer _) rfl ?_
  refine nlc rfl ?_
  refine fad rfl Tryd.underlying78 rfl ty50.sz ?_
  refine ldp 1 1 _ rfl rfl rfl rfl ty50 ?_
  refine mv (.int _ _) rfl ?_
  refine bsl (α := UInt8) ([c]) Tryd.underlying50 ty5.sz rfl (by decide) z5 rfl fun b13 => ⟨trivial, ?_⟩
  refine app 0 o xs ([c] : List UInt8) ho rfl ⟨rfl, rfl, rfl⟩ rfl rfl (gives_own (ys := ([c] : List UInt8)) (pre := []) (post := []) 2 rfl (by simp) rfl) Tryd.underlying50 Tryd.underlying50 (.inl ⟨_, rfl⟩) ty5.sz by5 z5 rfl (by simp; omega) rfl fun o14_1 hk14_1 => ⟨trivial, ?_⟩
  refine nlc rfl ?_
  refine fad rfl Tryd.underlying78 rfl ty50.sz ?_
  refine stp 1 1 _ (p1 (.slice o14_1.adr (xs ++ ([c] : List UInt8)).length o14_1.cap)) rfl rfl rfl rfl rfl rfl ty50 ⟨trivial, ?_⟩
  refine jt ?_
  refine c_seq ?_
  refine c_reg ?_
  refine asg .nilIface rfl ?_
  refine jt ?_
  refine c_ret ?_
  exact j_end (own0 := [[(b, .cells (cat [p1 (.pointer a), p1 (.slice o.adr xs.length o.cap)]) 78)], o.seg xs 5]) (ro0 := []) (.inl rfl) rfl (hr1 Tryd.results51 (rvt (v := .nilIface) rfl)) [1, 0] [2] [_, _] [_] [] _ rfl rfl (by kernel_rfl) rfl impl_nil (⟨o14_1, hk14_1, rfl, rfl, rfl⟩)

theorem bWriteString_ct (b : Nat) (a : Option Addr) (ha : a = none ∨ a = (some ⟨b, 0, none⟩)) (o : Ow) (xs : Str) (ho : o.ok xs) (hb : xs.length ≤ 1000000000000) (s : Str) (hs : s.length ≤ 1000000000000) : Ct Tryd.prog 53 [.pointer (some ⟨b, 0, none⟩), strV s] [[(b, .cells (cat [p1 (.pointer a), p1 (.slice o.adr xs.length o.cap)]) 78)], o.seg xs 5] [] (fun v w r => ∃ o' : Ow, o'.ok (xs ++ s) ∧ v = .tuple #[.int .i64 (s.length : Int), .nilIface] ∧ w = [[(b, .cells (cat [p1 (.pointer (some ⟨b, 0, none⟩)), p1 (.slice o'.adr (xs ++ s).length o'.cap)]) 78)], o'.seg (xs ++ s) 5] ∧ r = []) := by
  refine ct_enter Tryd.func53 rfl Tryd.ntmps53 (by kernel_rfl) rfl fun w0 => ?_
  refine c_seq ?_
  refine c_reg ?_
  refine asg (.int _ _) rfl ?_
  refine asg .nilIface rfl ?_
  refine jt ?_
  refine c_seq ?_
  refine c_reg ?_
  refine mv (.pointer _) rfl ?_
  refine cal (copyCheck_ct b _ ha _ _ _) [0] [1] [_] rfl rfl rfl (by kernel_rfl) impl_nil rfl ?_; rintro _ _ _ ⟨rfl, rfl, rfl⟩; refine ⟨trivial, ?_⟩
  refine jt ?_
  refine c_seq ?_
  refine c_reg ?_
  refine mv (.pointer _) rfl ?_
  refine mv (.pointer _) rfl ?_
  refine nlc rfl ?_
  refine fad rfl Tryd.underlying78 rfl ty50.sz ?_
  refine ldp 1 1 _ rfl rfl rfl rfl ty50 ?_
  refine mv (.string _) rfl ?_
  refine app 0 o xs s ho rfl ⟨rfl, rfl, rfl⟩ rfl rfl (gives_str s) Tryd.underlying50 Tryd.underlying9 (.inr rfl) ty5.sz by5 z5 rfl (by simp; omega) rfl fun o14_1 hk14_1 => ⟨trivial, ?_⟩
  refine nlc rfl ?_
  refine fad rfl Tryd.underlying78 rfl ty50.sz ?_
  refine stp 1 1 _ (p1 (.slice o14_1.adr (xs ++ s).length o14_1.cap)) rfl rfl rfl rfl rfl rfl ty50 ⟨trivial, ?_⟩
  refine jt ?_
  refine c_seq ?_
  refine c_reg ?_
  refine mv (.string _) rfl ?_
  refine lenT (s := s) rfl Tryd.underlying9 ?_
  refine asg (.int _ _) rfl ?_
  refine asg .nilIface rfl ?_
  refine jt ?_
  refine c_ret ?_
  exact j_end (own0 := [[(b, .cells (cat [p1 (.pointer a), p1 (.slice o.adr xs.length o.cap)]) 78)], o.seg xs 5]) (ro0 := []) (.inl rfl) rfl (hr2 Tryd.results53 (rvt (v := (.int _ _)) rfl) (rvt (v := .nilIface) rfl)) [1, 0] [] [_, _] [] [] _ rfl rfl (by kernel_rfl) rfl impl_nil (⟨o14_1, hk14_1, rfl, rfl, rfl⟩)

theorem AppendRune_ct (o : Ow) (xs : Str) (ho : o.ok xs) (hb : xs.length ≤ 1000000000000) (c : Nat) (hc : c < 128) : Ct Tryd.prog 78 [.slice o.adr xs.length o.cap, .int .i32 (c : Int)] [o.seg xs 5] [] (fun v w r => ∃ o' : Ow, o'.ok (xs ++ [UInt8.ofNat c]) ∧ v = .slice o'.adr (xs ++ [UInt8.ofNat c]).length o'.cap ∧ w = [o'.seg (xs ++ [UInt8.ofNat c]) 5] ∧ r = []) := by
  refine ct_enter Tryd.func78 rfl Tryd.ntmps78 (by kernel_rfl) rfl fun w0 => ?_
  refine c_seq ?_
  refine c_reg ?_
  refine asg (.slice _ _ _) rfl ?_
  refine jt ?_
  refine c_seq ?_
  refine c_seq ?_
  refine c_reg ?_
  refine mv (.int _ _) rfl ?_
  refine cvNU32 (n := c) rfl Tryd.underlying21 Tryd.underlying47 ?_
  refine cmp true rfl rfl (by simp [cmpV, UInt32.toNat_ofNat']; omega) ?_
  refine jt ?_
  refine c_true rfl ?_
  refine c_seq ?_
  refine c_reg ?_
  refine mv (.slice _ _ _) rfl ?_
  refine mv (.int _ _) rfl ?_
  refine cvNU8 (n := c) rfl Tryd.underlying21 Tryd.underlying5 ?_
  refine bsl (α := UInt8) ([(UInt8.ofNat c)]) Tryd.underlying50 ty5.sz rfl (by decide) z5 rfl fun b11 => ⟨trivial, ?_⟩
  refine app 0 o xs ([(UInt8.ofNat c)] : List UInt8) ho rfl ⟨rfl, rfl, rfl⟩ rfl rfl (gives_own (ys := ([(UInt8.ofNat c)] : List UInt8)) (pre := []) (post := []) 1 rfl (by simp) rfl) Tryd.underlying50 Tryd.underlying50 (.inl ⟨_, rfl⟩) ty5.sz by5 z5 rfl (by simp; omega) rfl fun o12_1 hk12_1 => ⟨trivial, ?_⟩
  refine asg (.slice _ _ _) rfl ?_
  refine jt ?_
  refine c_ret ?_
  exact j_end (own0 := [o.seg xs 5]) (ro0 := []) (.inl rfl) rfl (hr1 Tryd.results78 (rvt (v := (.slice _ _ _)) rfl)) [0] [1] [_] [_] [] _ rfl rfl (by kernel_rfl) rfl impl_nil (⟨o12_1, hk12_1, rfl, rfl, rfl⟩)

theorem bWriteRune_ct (b : Nat) (a : Option Addr) (ha : a = none ∨ a = (some ⟨b, 0, none⟩)) (o : Ow) (xs : Str) (ho : o.ok xs) (hb : xs.length ≤ 1000000000000) (c : Nat) (hc : c < 128) : Ct Tryd.prog 52 [.pointer (some ⟨b, 0, none⟩), .int .i32 (c : Int)] [[(b, .cells (cat [p1 (.pointer a), p1 (.slice o.adr xs.length o.cap)]) 78)], o.seg xs 5] [] (fun v w r => ∃ o' : Ow, o'.ok (xs ++ [UInt8.ofNat c]) ∧ v = .tuple #[.int .i64 1, .nilIface] ∧ w = [[(b, .cells (cat [p1 (.pointer (some ⟨b, 0, none⟩)), p1 (.slice o'.adr (xs ++ [UInt8.ofNat c]).length o'.cap)]) 78)], o'.seg (xs ++ [UInt8.ofNat c]) 5] ∧ r = []) := by
  refine ct_enter Tryd.func52 rfl Tryd.ntmps52 (by kernel_rfl) rfl fun w0 => ?_
  refine c_seq ?_
  refine c_reg ?_
  refine asg (.int _ _) rfl ?_
  refine asg .nilIface rfl ?_
  refine jt ?_
  refine c_seq ?_
  refine c_reg ?_
  refine mv (.pointer _) rfl ?_
  refine cal (copyCheck_ct b _ ha _ _ _) [0] [1] [_] rfl rfl rfl (by kernel_rfl) impl_nil rfl ?_; rintro _ _ _ ⟨rfl, rfl, rfl⟩; refine ⟨trivial, ?_⟩
  refine jt ?_
  refine c_seq ?_
  refine c_reg ?_
  refine mv (.pointer _) rfl ?_
  refine nlc rfl ?_
  refine fad rfl Tryd.underlying78 rfl ty50.sz ?_
  refine ldp 1 1 _ rfl rfl rfl rfl ty50 ?_
  refine lenS rfl Tryd.underlying50 ?_
  refine asg (.int _ _) rfl ?_
  refine jt ?_
  refine c_seq ?_
  refine c_reg ?_
  refine mv (.pointer _) rfl ?_
  refine mv (.pointer _) rfl ?_
  refine nlc rfl ?_
  refine fad rfl Tryd.underlying78 rfl ty50.sz ?_
  refine ldp 1 1 _ rfl rfl rfl rfl ty50 ?_
  refine mv (.int _ _) rfl ?_
  refine cal (AppendRune_ct o xs ho hb c hc) [0] [1] [_] rfl rfl rfl (by kernel_rfl) impl_nil rfl ?_; rintro _ _ _ ⟨ar20_1, hkar20_1, rfl, rfl, rfl⟩; refine ⟨trivial, ?_⟩
  refine nlc rfl ?_
  refine fad rfl Tryd.underlying78 rfl ty50.sz ?_
  refine stp 0 1 _ (p1 (.slice ar20_1.adr (xs ++ [UInt8.ofNat c]).length ar20_1.cap)) rfl rfl rfl rfl rfl rfl ty50 ⟨trivial, ?_⟩
  refine jt ?_
  refine c_seq ?_
  refine c_reg ?_
  refine mv (.pointer _) rfl ?_
  refine nlc rfl ?_
  refine fad rfl Tryd.underlying78 rfl ty50.sz ?_
  refine ldp 0 1 _ rfl rfl rfl rfl ty50 ?_
  refine lenS rfl Tryd.underlying50 ?_
  refine mv (.int _ _) rfl ?_
  refine ari 1 rfl rfl (congrArg some (by rw [show (((xs ++ [UInt8.ofNat c]).length : Int) - (xs.length : Int)) = 1 by simp; omega]; rfl)) ?_
  refine asg (.int _ _) rfl ?_
  refine asg .nilIface rfl ?_
  refine jt ?_
  refine c_ret ?_
  exact j_end (own0 := [[(b, .cells (cat [p1 (.pointer a), p1 (.slice o.adr xs.length o.cap)]) 78)], o.seg xs 5]) (ro0 := []) (.inl rfl) rfl (hr2 Tryd.results52 (rvt (v := (.int _ _)) rfl) (rvt (v := .nilIface) rfl)) [0, 1] [] [_, _] [] [] _ rfl rfl (by kernel_rfl) rfl impl_nil (⟨ar20_1, hkar20_1, rfl, rfl, rfl⟩)

theorem bString_ct (b : Nat) (a : Option Addr) (ha : a = none ∨ a = (some ⟨b, 0, none⟩)) (o : Ow) (xs : Str) (ho : o.ok xs) (hb : xs.length ≤ 1000000000000) (hp : 0 < xs.length) : Ct Tryd.prog 55 [.pointer (some ⟨b, 0, none⟩)] [[(b, .cells (cat [p1 (.pointer a), p1 (.slice o.adr xs.length o.cap)]) 78)], o.seg xs 5] [] (fun v o r => v = strV xs ∧ o = [] ∧ r = []) := by
  refine ct_enter Tryd.func55 rfl Tryd.ntmps55 (by kernel_rfl) rfl fun w0 => ?_
  refine c_seq ?_
  refine c_reg ?_
  refine asg (.string _) rfl ?_
  refine jt ?_
  refine c_seq ?_
  refine c_dr [_] [] [(0, 0), (1, 0), (2, 0), (3, 0), (4, 0), (5, 0), (6, 0), (7, 0), (8, 0), (9, 0), (10, 1), (11, 0)] follows (by kernel_rfl) calm_body (keepS [0] rfl) ?_
  refine mv (.pointer _) rfl ?_
  refine nlc rfl ?_
  refine fad rfl Tryd.underlying78 rfl ty50.sz ?_
  refine ldp 0 1 _ rfl rfl rfl rfl ty50 ?_
  refine usd rfl (ow_cap ho hp) ?_
  refine mv (.pointer _) rfl ?_
  refine nlc rfl ?_
  refine fad rfl Tryd.underlying78 rfl ty50.sz ?_
  refine ldp 0 1 _ rfl rfl rfl rfl ty50 ?_
  refine lenS rfl Tryd.underlying50 ?_
  refine ust 1 ho rfl rfl rfl rfl rfl Tryd.underlying112 (by kernel_rfl) (by omega) ⟨keepI [0] rfl, ?_⟩
  refine asg (.string _) rfl ?_
  refine jt ?_
  refine c_ret ?_
  exact j_end (own0 := [[(b, .cells (cat [p1 (.pointer a), p1 (.slice o.adr xs.length o.cap)]) 78)], o.seg xs 5]) (ro0 := []) (.inl rfl) rfl (hr1 Tryd.results55 (rvt (v := (.string _)) rfl)) [] [0, 1] [] [_, _] [] _ rfl rfl (by kernel_rfl) rfl impl_nil (⟨rfl, rfl, rfl⟩)
end Go.Proofs.YthpbiamicidakaaDoor
