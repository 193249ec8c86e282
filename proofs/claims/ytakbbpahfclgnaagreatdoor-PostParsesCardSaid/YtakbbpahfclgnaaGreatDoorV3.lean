/- Laws of an engine and of the program's functions, gathered. No condition. -/
import Derived.Test.YtakbbpahfclgnaaGreatDoorV2
open Go.Proofs.Tryz renaming underlying2 → uy2, underlying3 → uy3, underlying5 → uy5, underlying9 → uy9, underlying21 → uy21, underlying24 → uy24, underlying70 → uy70, underlying72 → uy72, underlying74 → uy74, underlying76 → uy76, underlying93 → uy93, underlying137 → uy137, underlying153 → uy153, underlying161 → uy161, underlying193 → uy193, underlying211 → uy211, underlying212 → uy212, underlying228 → uy228
set_option maxRecDepth 20000
set_option maxHeartbeats 4000000
namespace Go.Proofs.YtakbbpahfclgnaaGreatDoor
open Go Go.Proofs Go.PW
open Go.PW.Enc (enc val)
theorem ty137 : Ty Tryz.prog 137 3 true := ⟨by kernel_rfl, by kernel_rfl⟩
theorem z137 : Zt Tryz.prog 137 (.agg ⟨cat [pt ([] : Str), pt (0 : Int), p1 (.bool false)]⟩) := by unfold Zt; kernel_rfl
theorem degrees_bad (b : Nat) (s : Str) (p : Nat) (hs : s.length ≤ 140737488351232) (hp : p ≤ s.length) (M : F64) : Ct Tryz.prog 69 [.pointer (some ⟨b, 0, none⟩), .float .f64 M.b.toNat] [[(b, .cells (cat [pt s, p1 (.int .i64 ((p : Nat) : Int)), p1 (.bool true)]) 137)]] [] (fun v o r => ∃ n : F64, v = .float .f64 n.b.toNat ∧ o = [[(b, .cells (cat [pt s, p1 (.int .i64 ((p : Nat) : Int)), p1 (.bool true)]) 137)]] ∧ r = []) := by
 refine ct_enter Tryz.func69 rfl Tryz.ntmps69 (by kernel_rfl) rfl fun w0 => ?_
 refine csr <| asg (.float _ _) rfl <| jsr <| mvp rfl <| nlc rfl <| ldw 0 _ rfl rfl ty137 <| alo [pt ([] : Str), pt (0 : Int), p1 (.bool false)] _ z137 rfl fun b5 => ⟨trivial, ?_⟩
 refine stw 1 _ [pt s, p1 (.int .i64 ((p : Nat) : Int)), p1 (.bool true)] rfl rfl rfl rfl ty137 ⟨trivial, ?_⟩
 refine jsr <| agi rfl <| jt <| c_seq <| csr <| mvp rfl <| cal (bytes_bad b s p (by omega) (by omega) 8 (by omega) (by omega)) [0] [1] [_] rfl rfl rfl (by kernel_rfl) impl_nil rfl ?_; rintro _ _ _ ⟨yb1, yx1, hky1, hyl1, rfl, rfl, rfl⟩; refine ⟨trivial, ?_⟩
 refine lenS rfl uy93 <| mvi rfl <| jt <| c_block <| c_loop (σ := Nat × UInt64) (fun (i, bits) => i ≤ 8) (fun (i, bits) => 8 - i) (fun (i, bits) => [(16, .int .i64 (i : Int)), (6, .int .u64 (bits.toNat : Int))]) (fun (i, bits) => [[(b5, .cells (cat [pt s, p1 (.int .i64 ((p : Nat) : Int)), p1 (.bool true)]) 137)], [(b, .cells (cat [pt s, p1 (.int .i64 ((p : Nat) : Int)), p1 (.bool true)]) 137)], yb1.seg yx1 5]) (fun (i, bits) => []) [6, 8, 16, 17, 18, 19, 20, 21, 22, 23, 24, 25] (0, 0) (by omega) ⟨rfl, rfl, trivial⟩ rfl rfl ?_
 rintro ⟨i, bits⟩ g1 hI1
 try dsimp only at hI1 ⊢
 refine csr <| cmp _ rfl rfl rfl <| jt <| c_seq <| c_cond rfl (fun h1 => ?_) (fun h1 => ?_)
 ·replace h1 := of_decide_eq_true h1
  refine c_skip <| e_then <| c_seq <| c_block <| csr <| ixs ((yb1).vs) yx1 i (Ow.vs_ok hky1) rfl hyl1.symm rfl uy93 ty5.sz rfl (by rw [hyl1]; omega) <| ldsoG 2 (List.getD yx1 i 0) hky1 rfl rfl rfl rfl (getD_some (by rw [hyl1]; omega)) ty5 <| agi rfl <| jr <| mvi rfl <| shlRU64 (a := bits) 8 rfl rfl rfl <| mvi rfl <| cvNU64 (n := (List.getD yx1 i 0).toNat) rfl uy5 uy72 <| orU64 (a := (shlU64 bits 8)) (b := (UInt64.ofNat ((List.getD yx1 i 0).toNat))) rfl rfl <| agi rfl <| jn <| e_in <| e_then <| c_reg <| addi rfl rfl rfl (by omega) <| mvi rfl <| jn ?_
  exact e_loop (i + 1, ((shlU64 bits 8) ||| (UInt64.ofNat ((List.getD yx1 i 0).toNat)))) (by omega) (by show 8 - (i + 1) < 8 - i; omega) (⟨rfl, rfl, trivial⟩) rfl rfl rfl
 ·replace h1 := of_decide_eq_false h1
  refine c_exit rfl <| e_then <| csr <| mvi rfl <| xcal (args := [.int .u64 (bits.toNat : Int)]) (.float .f64 bits.toNat) Tryz.func93 (by kernel_rfl) (by kernel_rfl) (by kernel_rfl) (fun w => rfl) (by kernel_rfl) rfl <| asg (.float _ _) rfl <| jt <| c_seq <| csr <| mvp rfl <| nlc rfl <| fad rfl uy137 rfl ty4.sz <| ldp 1 2 _ rfl rfl rfl rfl ty4 <| not_ rfl <| mvb rfl <| g_off rfl rfl rfl rfl <| g_off rfl rfl rfl rfl <| g_off rfl rfl rfl rfl <| pkf (.bool _) rfl rfl <| jt <| c_false rfl <| c_skip <| e_then <| csr <| mv (.float _ _) rfl <| asg (.float _ _) rfl <| jt <| c_ret ?_
  exact j_end (own0 := [[(b, .cells (cat [pt s, p1 (.int .i64 ((p : Nat) : Int)), p1 (.bool true)]) 137)]]) (ro0 := []) (.inl rfl) rfl (hr1 Tryz.results69 (rvt (v := (.float _ _)) rfl)) [1] [0, 2] [_] [_, _] [] _ rfl rfl (by kernel_rfl) rfl impl_nil (⟨⟨bits⟩, rfl, rfl, rfl⟩)
theorem degrees_ct (b : Nat) (s : Str) (p : Nat) (hs : s.length ≤ 140737488351232) (hp : p ≤ s.length) (M : F64) : Ct Tryz.prog 69 [.pointer (some ⟨b, 0, none⟩), .float .f64 M.b.toNat] [[(b, .cells (cat [pt s, p1 (.int .i64 ((p : Nat) : Int)), p1 (.bool false)]) 137)]] [] (fun v o r => (∃ (n : F64) (q : Nat), degR s M p = .inr (n, q) ∧ v = .float .f64 n.b.toNat ∧ o = [[(b, .cells (cat [pt s, p1 (.int .i64 ((q : Nat) : Int)), p1 (.bool false)]) 137)]] ∧ r = []) ∨ (∃ (n : F64) (q : Nat), degR s M p = .inl q ∧ q ≤ s.length ∧ v = .float .f64 n.b.toNat ∧ o = [[(b, .cells (cat [pt s, p1 (.int .i64 ((q : Nat) : Int)), p1 (.bool true)]) 137)]] ∧ r = [])) := by
 refine ct_enter Tryz.func69 rfl Tryz.ntmps69 (by kernel_rfl) rfl fun w0 => ?_
 refine csr <| asg (.float _ _) rfl <| jsr <| mvp rfl <| nlc rfl <| ldw 0 _ rfl rfl ty137 <| alo [pt ([] : Str), pt (0 : Int), p1 (.bool false)] _ z137 rfl fun b5 => ⟨trivial, ?_⟩
 refine stw 1 _ [pt s, p1 (.int .i64 ((p : Nat) : Int)), p1 (.bool false)] rfl rfl rfl rfl ty137 ⟨trivial, ?_⟩
 refine jsr <| agi rfl <| jt <| c_seq <| csr <| mvp rfl <| cal (bytes_ct b s p (by omega) (by omega) 8 (by omega) (by omega)) [0] [1] [_] rfl rfl rfl (by kernel_rfl) impl_nil rfl ?_; rintro _ _ _ (⟨yb1, yq1, hby1, hky1, rfl, rfl, rfl⟩ | ⟨yb1, yx1, yq1, hby1, hby1b, hky1, hyl1, rfl, rfl, rfl⟩)
 ·have hby1b := hexR_next hby1; refine ⟨trivial, ?_⟩
  refine lenS rfl uy93 <| mvi rfl <| jt <| c_block <| c_loop (σ := Nat × UInt64) (fun (i, bits) => i ≤ 8 ∧ bits.toNat = hval (word s (p + 1)) (2 * i)) (fun (i, bits) => 8 - i) (fun (i, bits) => [(16, .int .i64 (i : Int)), (6, .int .u64 (bits.toNat : Int))]) (fun (i, bits) => [[(b5, .cells (cat [pt s, p1 (.int .i64 ((p : Nat) : Int)), p1 (.bool false)]) 137)], [(b, .cells (cat [pt s, p1 (.int .i64 ((yq1 : Nat) : Int)), p1 (.bool false)]) 137)], yb1.seg (hexb (word s (p + 1)) 8) 5]) (fun (i, bits) => []) [6, 8, 16, 17, 18, 19, 20, 21, 22, 23, 24, 25] (0, 0) (⟨by omega, by simp [hval]⟩) ⟨rfl, rfl, trivial⟩ rfl rfl ?_
  rintro ⟨i, bits⟩ g1 hI1
  try dsimp only at hI1 ⊢
  have HV := hval_lt hby1b.2.2.2 (2 * i) (by omega)
  refine csr <| cmp _ rfl rfl rfl <| jt <| c_seq <| c_cond rfl (fun h1 => ?_) (fun h1 => ?_)
  ·replace h1 := of_decide_eq_true h1
   refine c_skip <| e_then <| c_seq <| c_block <| csr <| ixs ((yb1).vs) (hexb (word s (p + 1)) 8) i (Ow.vs_ok hky1) rfl ((hrow_length _ _ _).symm) rfl uy93 ty5.sz rfl (by first | (rw [hyl1]; omega) | (unfold hexb; rw [hrow_length]; omega)) <| ldsoG 2 (List.getD (hexb (word s (p + 1)) 8) i 0) hky1 rfl rfl rfl rfl (getD_some (by first | (rw [hyl1]; omega) | (unfold hexb; rw [hrow_length]; omega))) ty5 <| agi rfl <| jr <| mvi rfl <| shlRU64 (a := bits) 8 rfl rfl rfl <| mvi rfl <| cvNU64 (n := (List.getD (hexb (word s (p + 1)) 8) i 0).toNat) rfl uy5 uy72 <| orU64 (a := (shlU64 bits 8)) (b := (UInt64.ofNat ((List.getD (hexb (word s (p + 1)) 8) i 0).toNat))) rfl rfl <| agi rfl <| jn <| e_in <| e_then <| c_reg <| addi rfl rfl rfl (by omega) <| mvi rfl <| jn ?_
   exact e_loop (i + 1, ((shlU64 bits 8) ||| (UInt64.ofNat ((List.getD (hexb (word s (p + 1)) 8) i 0).toNat)))) (⟨by omega, by rw [hval_byte hby1b.2.2.1 hby1b.2.2.2 (show i < 8 by omega), ← hI1.2]; exact or8 (hv_56 HV hI1.2 (by omega))⟩) (by show 8 - (i + 1) < 8 - i; omega) (⟨rfl, rfl, trivial⟩) rfl rfl rfl
  ·replace h1 := of_decide_eq_false h1
   refine c_exit rfl <| e_then <| csr <| mvi rfl <| xcal (args := [.int .u64 (bits.toNat : Int)]) (.float .f64 bits.toNat) Tryz.func93 (by kernel_rfl) (by kernel_rfl) (by kernel_rfl) (fun w => rfl) (by kernel_rfl) rfl <| asg (.float _ _) rfl <| jt <| c_seq <| csr <| mvp rfl <| nlc rfl <| fad rfl uy137 rfl ty4.sz <| ldp 1 2 _ rfl rfl rfl rfl ty4 <| not_ rfl <| mvb rfl <| g_on rfl rfl rfl <| mv (.float _ _) rfl <| g_on rfl rfl rfl <| mv (.float _ _) rfl <| g_on rfl rfl rfl <| cal (odd_ct (⟨bits⟩ : F64) M) [] [0, 1, 2] [_, _, _] rfl rfl rfl (by kernel_rfl) impl_nil rfl ?_; rintro _ _ _ ⟨rfl, rfl, rfl⟩; refine ⟨trivial, ?_⟩
   refine pkt (.bool _) rfl rfl <| jt <| c_cond rfl (fun h2 => ?_) (fun h2 => ?_)
   ·refine c_reg <| mvp rfl <| mvp rfl <| fad rfl uy137 rfl ty3.sz <| ldp 0 1 _ rfl rfl rfl rfl ty3 <| addi rfl rfl rfl (by omega) <| nlc rfl <| fad rfl uy137 rfl ty3.sz <| stp 1 1 _ (p1 (.int .i64 (((p : Nat) : Int) + 1))) rfl rfl rfl rfl rfl rfl ty3 ⟨trivial, ?_⟩
    refine nlc rfl <| fad rfl uy137 rfl ty4.sz <| stp 1 2 _ (p1 (.bool true)) rfl rfl rfl rfl rfl rfl ty4 ⟨trivial, ?_⟩
    refine jsr <| mv (.float _ _) rfl <| asg (.float _ _) rfl <| jt <| c_ret ?_
    exact j_end (own0 := [[(b, .cells (cat [pt s, p1 (.int .i64 ((p : Nat) : Int)), p1 (.bool false)]) 137)]]) (ro0 := []) (.inl rfl) rfl (hr1 Tryz.results69 (rvt (v := (.float _ _)) rfl)) [1] [0, 2] [_] [_, _] [] _ rfl rfl (by kernel_rfl) rfl impl_nil (.inr ⟨⟨bits⟩, (p + 1), degR_odd hby1 (by rw [← degB_of hby1b.2.2.1 (by rw [hI1.2, show 2 * i = 16 by omega])]; assumption), by omega, rfl, rfl, rfl⟩)
   ·refine c_skip <| e_then <| csr <| mv (.float _ _) rfl <| asg (.float _ _) rfl <| jt <| c_ret ?_
    exact j_end (own0 := [[(b, .cells (cat [pt s, p1 (.int .i64 ((p : Nat) : Int)), p1 (.bool false)]) 137)]]) (ro0 := []) (.inl rfl) rfl (hr1 Tryz.results69 (rvt (v := (.float _ _)) rfl)) [1] [0, 2] [_] [_, _] [] _ rfl rfl (by kernel_rfl) rfl impl_nil (.inl ⟨_, _, by rw [degB_of hby1b.2.2.1 (by rw [hI1.2, show 2 * i = 16 by omega])]; exact degR_ok hby1 (by rw [← degB_of hby1b.2.2.1 (by rw [hI1.2, show 2 * i = 16 by omega])]; assumption), rfl, rfl, rfl⟩)
 ·refine ⟨trivial, ?_⟩
  refine lenS rfl uy93 <| mvi rfl <| jt <| c_block <| c_loop (σ := Nat × UInt64) (fun (i, bits) => i ≤ 8) (fun (i, bits) => 8 - i) (fun (i, bits) => [(16, .int .i64 (i : Int)), (6, .int .u64 (bits.toNat : Int))]) (fun (i, bits) => [[(b5, .cells (cat [pt s, p1 (.int .i64 ((p : Nat) : Int)), p1 (.bool false)]) 137)], [(b, .cells (cat [pt s, p1 (.int .i64 ((yq1 : Nat) : Int)), p1 (.bool true)]) 137)], yb1.seg yx1 5]) (fun (i, bits) => []) [6, 8, 16, 17, 18, 19, 20, 21, 22, 23, 24, 25] (0, 0) (by omega) ⟨rfl, rfl, trivial⟩ rfl rfl ?_
  rintro ⟨i, bits⟩ g1 hI1
  try dsimp only at hI1 ⊢
  refine csr <| cmp _ rfl rfl rfl <| jt <| c_seq <| c_cond rfl (fun h3 => ?_) (fun h3 => ?_)
  ·replace h3 := of_decide_eq_true h3
   refine c_skip <| e_then <| c_seq <| c_block <| csr <| ixs ((yb1).vs) yx1 i (Ow.vs_ok hky1) rfl hyl1.symm rfl uy93 ty5.sz rfl (by first | (rw [hyl1]; omega) | (unfold hexb; rw [hrow_length]; omega)) <| ldsoG 2 (List.getD yx1 i 0) hky1 rfl rfl rfl rfl (getD_some (by first | (rw [hyl1]; omega) | (unfold hexb; rw [hrow_length]; omega))) ty5 <| agi rfl <| jr <| mvi rfl <| shlRU64 (a := bits) 8 rfl rfl rfl <| mvi rfl <| cvNU64 (n := (List.getD yx1 i 0).toNat) rfl uy5 uy72 <| orU64 (a := (shlU64 bits 8)) (b := (UInt64.ofNat ((List.getD yx1 i 0).toNat))) rfl rfl <| agi rfl <| jn <| e_in <| e_then <| c_reg <| addi rfl rfl rfl (by omega) <| mvi rfl <| jn ?_
   exact e_loop (i + 1, ((shlU64 bits 8) ||| (UInt64.ofNat ((List.getD yx1 i 0).toNat)))) (by omega) (by show 8 - (i + 1) < 8 - i; omega) (⟨rfl, rfl, trivial⟩) rfl rfl rfl
  ·replace h3 := of_decide_eq_false h3
   refine c_exit rfl <| e_then <| csr <| mvi rfl <| xcal (args := [.int .u64 (bits.toNat : Int)]) (.float .f64 bits.toNat) Tryz.func93 (by kernel_rfl) (by kernel_rfl) (by kernel_rfl) (fun w => rfl) (by kernel_rfl) rfl <| asg (.float _ _) rfl <| jt <| c_seq <| csr <| mvp rfl <| nlc rfl <| fad rfl uy137 rfl ty4.sz <| ldp 1 2 _ rfl rfl rfl rfl ty4 <| not_ rfl <| mvb rfl <| g_off rfl rfl rfl rfl <| g_off rfl rfl rfl rfl <| g_off rfl rfl rfl rfl <| pkf (.bool _) rfl rfl <| jt <| c_false rfl <| c_skip <| e_then <| csr <| mv (.float _ _) rfl <| asg (.float _ _) rfl <| jt <| c_ret ?_
   exact j_end (own0 := [[(b, .cells (cat [pt s, p1 (.int .i64 ((p : Nat) : Int)), p1 (.bool false)]) 137)]]) (ro0 := []) (.inl rfl) rfl (hr1 Tryz.results69 (rvt (v := (.float _ _)) rfl)) [1] [0, 2] [_] [_, _] [] _ rfl rfl (by kernel_rfl) rfl impl_nil (.inr ⟨⟨bits⟩, _, degR_l hby1, hby1b, rfl, rfl, rfl⟩)
end Go.Proofs.YtakbbpahfclgnaaGreatDoor
namespace Go.PW
open Enc (enc val)
open Go
section
variable {cx : Cx} {md : Md} {ops : Array Oper} {Q : Exit → Act → World → Prop} {rest : List (Oper × Nat)} {kq : Nat} {base : Nat → Value} {L : List (Nat × Value)} {own ro : List Seg}
variable {q : Nat} {d : Nat} {ty : TypeId} {pos : String} {aft : Array Edge} {x y z : Operand} {xt yt : TypeId} {k k2 : IntKind}
theorem shrn {a m : Nat} {i : Int} (n : Nat) (hx : ev cx.n base L x = .int k (a : Int)) (hy : ev cx.n base L y = .int k2 i) (hn : i = (n : Int)) (hm : 2 ^ (min n k.bits) = m) (h : JG cx md ops Q rest base ((d, .int k ((a / m : Nat) : Int)) :: L) own ro) : JG cx md ops Q ((⟨some d, .binOp .shr xt x y yt, ty, pos, aft, none⟩, q) :: rest) base L own ro :=
  bopI _ hx hy (by
    subst hn; subst hm
    show Op.shift .shr k _ k2 _ = _
    rw [shift_shr_any _ _ _ _ (by omega), Int.toNat_natCast, Int.natCast_ediv, Int.natCast_pow]; rfl) h
end
theorem or192 : ∀ x : Fin 32, ((192 : UInt8) ||| UInt8.ofNat x.val) = UInt8.ofNat (192 + x.val) := by decide +kernel
theorem or224 : ∀ x : Fin 16, ((224 : UInt8) ||| UInt8.ofNat x.val) = UInt8.ofNat (224 + x.val) := by decide +kernel
theorem or240 : ∀ x : Fin 8, ((240 : UInt8) ||| UInt8.ofNat x.val) = UInt8.ofNat (240 + x.val) := by decide +kernel
theorem or128 : ∀ x : Fin 256, ((128 : UInt8) ||| (UInt8.ofNat x.val &&& 63)) = UInt8.ofNat (128 + x.val % 64) := by decide +kernel
theorem orC {n : Nat} : ((128 : UInt8) ||| (UInt8.ofNat n &&& 63)) = UInt8.ofNat (128 + n % 64) := by
  have := or128 ⟨n % 256, Nat.mod_lt _ (by omega)⟩
  have e : UInt8.ofNat n = UInt8.ofNat (n % 256) := by apply UInt8.toNat_inj.1; simp [UInt8.toNat_ofNat']
  rw [e]; rw [show n % 64 = n % 256 % 64 by omega]; exact this
theorem enc8_1 {c : Nat} (h : c < 128) : enc8 c = [UInt8.ofNat c] := by unfold enc8; rw [if_pos h]
theorem enc8_2 {c : Nat} (h : ¬ c < 128) (h2 : c < 2048) : enc8 c = [192 ||| UInt8.ofNat (c / 64), 128 ||| (UInt8.ofNat c &&& 63)] := by
  have a := or192 ⟨c / 64, by omega⟩
  dsimp only at a
  unfold enc8; rw [if_neg h, if_pos h2, a, orC]
theorem enc8_3 {c : Nat} (h2 : ¬ c < 2048) (h3 : c < 65536) : enc8 c = [224 ||| UInt8.ofNat (c / 4096), 128 ||| (UInt8.ofNat (c / 64) &&& 63), 128 ||| (UInt8.ofNat c &&& 63)] := by
  have a := or224 ⟨c / 4096, by omega⟩
  dsimp only at a
  unfold enc8; rw [if_neg (by omega), if_neg h2, if_pos h3, a, orC, orC]
theorem enc8_4 {c : Nat} (h3 : ¬ c < 65536) (h4 : c ≤ 1114111) : enc8 c = [240 ||| UInt8.ofNat (c / 262144), 128 ||| (UInt8.ofNat (c / 4096) &&& 63), 128 ||| (UInt8.ofNat (c / 64) &&& 63), 128 ||| (UInt8.ofNat c &&& 63)] := by
  have a := or240 ⟨c / 262144, by omega⟩
  dsimp only at a
  unfold enc8; rw [if_neg (by omega), if_neg (by omega), if_neg h3, a, orC, orC, orC]
theorem getD_drop (s : Str) (i j : Nat) : List.getD (s.drop i) j 0 = List.getD s (i + j) 0 := by simp [List.getD, List.getElem?_drop]
theorem pfx_one {s : Str} {c : UInt8} : pfx s [c] = true ↔ 0 < s.length ∧ List.getD s 0 0 = c := by
  cases s with
  | nil => simp [pfx]
  | cons a r => simp [pfx]
def vruneZ (r : Int) : Bool := (decide (0 ≤ r) && decide (r < 55296)) || (decide (57343 < r) && decide (r ≤ 1114111))
theorem vruneZ_nat {c : Nat} : vruneZ (c : Int) = vrune c := by
  unfold vruneZ vrune
  rw [Bool.eq_iff_iff]
  simp only [Bool.or_eq_true, Bool.and_eq_true, decide_eq_true_eq]
  omega
theorem vruneZ_neg {r : Int} (h : r < 0) : vruneZ r = false := by
  unfold vruneZ
  rw [decide_eq_false (show ¬ 0 ≤ r by omega), decide_eq_false (show ¬ 57343 < r by omega)]; rfl
theorem coded_yes {r : Str} {n : Int} {k : Nat} {x : Str} (h1 : idxN r 125 < r.length) (h2 : List.getD r 0 0 = 123) (hx : 0 ≤ n → x = fmtN 16 n.toNat) (he : x = (r.drop 1).take (idxN r 125 - 1)) (hv : vruneZ n = true) (hp : n < 32 ∨ 126 < n) (hk : k = idxN r 125 + 1) :
    ∃ c m : Nat, n = (c : Int) ∧ (k : Int) = (m : Int) ∧ coded r = some (c, m) := by
  have h0 : 0 ≤ n := Int.not_lt.1 fun h => by rw [vruneZ_neg h] at hv; cases hv
  obtain ⟨c, rfl⟩ := Int.eq_ofNat_of_zero_le h0
  rw [vruneZ_nat] at hv
  refine ⟨c, k, rfl, rfl, ?_⟩
  have hx' := hx h0
  rw [Int.toNat_natCast] at hx'
  unfold coded
  rw [if_pos ⟨h1, h2⟩, ← he, hx', pnum_fmt (by omega) (by omega) (by rw [vrune_iff] at hv; omega)]
  simp only
  rw [if_pos ⟨hv, by omega⟩, hk]
theorem coded_none1 {r : Str} (h : ¬(idxN r 125 < r.length ∧ List.getD r 0 0 = 123)) : coded r = none := by unfold coded; rw [if_neg h]
theorem coded_none2 {r : Str} (h : ∀ c, pnum 16 ((r.drop 1).take (idxN r 125 - 1)) = some c → ¬(vrune c = true ∧ (c < 32 ∨ 126 < c))) : coded r = none := by
  unfold coded
  split
  · cases hp : pnum 16 ((r.drop 1).take (idxN r 125 - 1)) with
    | none => rfl
    | some c => simp only; rw [if_neg (h c hp)]
  · rfl
theorem fmt_sign {w : Str} {m : Nat} (h : List.getD w 0 0 = 43 ∨ List.getD w 0 0 = 45) : w ≠ fmtN 16 m := fun e => by
  have hl := (fmtN_length 16 m).1
  have h1 := fmt_get e (i := 0) (by rw [e]; omega)
  have h2 := dch_sign (m / 16 ^ (w.length - 1 - 0) % 16) (Nat.mod_lt _ (by omega))
  rw [h1] at h
  rcases h with h | h
  · exact h2.1 h
  · exact h2.2.1 h
theorem ow_cap2 {o : Ow} {ys : Str} (h : o.ok ys) (hl : 0 < ys.length ∨ o.nl = true) : o.cap ≠ 0 ∨ o.adr = none := by
  rcases hl with hl | hl
  · exact ow_cap h hl
  · exact .inr (by simp [Ow.adr, hl])
end Go.PW
namespace Go.Proofs.YtakbbpahfclgnaaGreatDoor
open Go Go.Proofs Go.PW
open Go.PW.Enc (enc val)
theorem formatBitsN_ct (u : UInt64) : Ct Tryz.prog 154 [.slice none 0 0, .int .u64 (u.toNat : Int), .int .i64 16, .bool true, .bool false] [] [tDb64 11] (fun v o r => ∃ x : Str, v = .tuple #[.slice none 0 0, strV x] ∧ o = [] ∧ r = []) := by
 refine ct_enter Tryz.func154 rfl Tryz.ntmps154 (by kernel_rfl) rfl fun w0 => ?_
 refine csr <| agl rfl <| ags rfl <| jt <| c_seq <| csr <| mvi rfl <| cmp false rfl rfl rfl <| mvb rfl <| g_on rfl rfl rfl <| mvi rfl <| g_on rfl rfl rfl <| cmp false rfl rfl rfl <| pkf (.bool _) rfl rfl <| mvb rfl <| g_on rfl rfl rfl <| mvi rfl <| g_on rfl rfl rfl <| cmp false rfl rfl rfl <| pkf (.bool _) rfl rfl <| jt <| c_false rfl <| c_skip <| e_then <| csr <| alo [pt (zarr : (Arr UInt8 65))] _ z228 rfl fun b12 => ⟨trivial, ?_⟩
 refine jsr <| agi rfl <| jt <| c_seq <| csr <| mvb rfl <| jt <| c_true rfl <| c_reg <| mvi rfl <| negU (a := u) rfl <| agi rfl <| jt <| c_seq <| csr <| mvi rfl <| cal isPow16_ct [] [0] [_] rfl rfl rfl (by kernel_rfl) impl_nil rfl ?_; rintro _ _ _ ⟨rfl, rfl, rfl⟩; refine ⟨trivial, ?_⟩
 refine jt <| c_true rfl <| csr <| mvi rfl <| cvI 16 rfl uy3 uy161 (by kernel_rfl) <| cal tz_16_ct [] [0] [_] rfl rfl rfl (by kernel_rfl) (impl_cons (impl_at 0 rfl) impl_nil) rfl ?_; rintro _ _ _ ⟨rfl, rfl, rfl⟩; refine ⟨trivial, ?_⟩
 refine cvI 4 rfl uy3 uy161 (by kernel_rfl) <| agi rfl <| jsr <| mvi rfl <| cvI 16 rfl uy3 uy72 (by kernel_rfl) <| agi rfl <| jsr <| mvi rfl <| cvI 16 rfl uy3 uy161 (by kernel_rfl) <| bopI (.int .u64 15) rfl rfl (by kernel_rfl) <| agi rfl <| jt <| c_seq <| c_block <| c_loop (σ := Nat × Arr UInt8 65 × UInt64) (fun (k, a, w) => FX (0 - u).toNat k a w.toNat) (fun (k, a, w) => w.toNat) (fun (k, a, w) => [(13, .int .i64 (65 - (k : Int))), (1, .int .u64 (w.toNat : Int))]) (fun (k, a, w) => [[(b12, .cells (cat [pt a]) 228)]]) (fun (k, a, w) => [tDb64 11]) [1, 13, 44, 45, 46, 47, 48, 49, 50, 51, 52, 53, 54, 55, 56, 57] (0, (zarr : Arr UInt8 65), (0 - u)) (FX.begin _ _) ⟨by rfl, rfl, trivial⟩ rfl rfl ?_
 rintro ⟨k, a, w⟩ g1 hI1
 try dsimp only at hI1 ⊢
 have HLE := hI1.le
 have HW := w.toNat_lt
 refine c_seq <| csr <| mvi rfl <| mvi rfl <| cmp _ rfl rfl rfl <| jt <| c_cond rfl (fun h1 => ?_) (fun h1 => ?_)
 ·replace h1 := of_decide_eq_true h1
  refine c_skip <| e_then <| c_block <| csr <| mvi rfl <| subi rfl rfl rfl (by omega) <| agi rfl <| jsr <| mvi rfl <| mvi rfl <| mvi rfl <| andU64 (a := w) (b := (15 : UInt64)) rfl rfl <| idxT (s := digitsL) ((w &&& 15).toNat) (by kernel_rfl) rfl uy9 rfl (by rw [fx_and]; show _ < 36; omega) <| ixaA (64 - k) rfl rfl uy228 ty5.sz (by omega) (by omega) <| sta 0 0 _ a (64 - k) (List.getD digitsL ((w &&& 15).toNat) 0) rfl rfl rfl rfl rfl (by omega) ty5 ⟨trivial, ?_⟩
  refine jr <| mvi rfl <| mvi rfl <| shrRU64 (a := w) 4 rfl rfl rfl <| agi rfl <| jn <| e_in ?_
  exact e_loop (k + 1, (Arr.set a (64 - k) (List.getD digitsL ((w &&& 15).toNat) 0)), (shrU64 w 4)) (by rw [show (shrU64 w 4).toNat = w.toNat / 16 from shrU64_toNat w 4]; exact FX.step hI1 (UInt64.toNat_lt _) (by omega) (by rw [digitsL_at _ (by rw [fx_and]; omega), fx_and])) (by show (shrU64 w 4).toNat < w.toNat; rw [shrU64_toNat]; omega) (⟨congrArg (Value.int _) (by omega), rfl, trivial⟩) rfl rfl rfl
 ·replace h1 := of_decide_eq_false h1
  refine c_exit rfl <| e_then <| csr <| mvi rfl <| subi rfl rfl rfl (by omega) <| agi rfl <| jr <| mvi rfl <| mvi rfl <| idxT (s := digitsL) w.toNat (by kernel_rfl) rfl uy9 rfl (by show _ < 36; omega) <| ixaA (64 - k) rfl rfl uy228 ty5.sz (by omega) (by omega) <| sta 0 0 _ a (64 - k) (List.getD digitsL w.toNat 0) rfl rfl rfl rfl rfl (by omega) ty5 ⟨trivial, ?_⟩
  refine jt <| c_seq <| csr <| mvb rfl <| jt <| c_true rfl <| csr <| mvi rfl <| subi rfl rfl rfl (by omega) <| agi rfl <| jr <| mvi rfl <| ixaA (63 - k) rfl rfl uy228 ty5.sz (by omega) (by omega) <| sta 0 0 _ (Arr.set a (64 - k) (List.getD digitsL w.toNat 0)) (63 - k) (45 : UInt8) rfl rfl rfl rfl rfl (by omega) ty5 ⟨trivial, ?_⟩
  refine jt <| c_seq <| csr <| mvb rfl <| jt <| c_false rfl <| c_skip <| e_then <| csr <| mvi rfl <| slaA (63 - k) 65 rfl uy228 ty5.sz ⟨_, congrArg (Value.int _) (by omega)⟩ rfl (by first | omega | (simp; done) | (simp; omega) | (simp at *; omega)) (by first | omega | (simp; done) | (simp; omega) | (simp at *; omega)) (by first | omega | (simp; done) | (simp; omega) | (simp at *; omega)) <| cvA (l := (63 - k)) (Arr.set (Arr.set a (64 - k) (List.getD digitsL w.toNat 0)) (63 - k) (45 : UInt8)) (65 - (63 - k)) 0 0 rfl (by first | omega | (simp; done) | (simp; omega) | (simp at *; omega)) rfl rfl rfl (by first | omega | (simp; done) | (simp; omega) | (simp at *; omega)) uy93 uy9 uy5 <| ags rfl <| jt <| c_ret ?_
  exact j_d (own0 := []) (ro0 := [tDb64 11]) (.inl rfl) rfl (hr2 Tryz.results154 (rvt (v := (.slice _ _ _)) rfl) (rvt (v := (.string _)) rfl)) [0] [_] rfl (by kernel_rfl) rfl (⟨_, rfl, rfl, rfl⟩)
theorem FormatIntN_ct (n : Int) (hn : n < 0) (hl : -9223372036854775808 ≤ n) : Ct Tryz.prog 158 [.int .i64 n, .int .i64 16] [] [tDb64 11] (fun v o r => ∃ x : Str, v = strV x ∧ o = [] ∧ r = []) := by
 refine ct_enter Tryz.func158 rfl Tryz.ntmps158 (by kernel_rfl) rfl fun w0 => ?_
 refine csr <| ags rfl <| jt <| c_seq <| csr <| mvi rfl <| cmp false rfl rfl rfl <| jt <| c_false rfl <| c_skip <| e_then <| csr <| mvi rfl <| cvZU64 (n := n) rfl uy2 uy72 <| mvi rfl <| mvi rfl <| cmp true rfl rfl (by simp [cmpV, hn]) <| cal (formatBitsN_ct (UInt64.ofInt n)) [] [] [] rfl rfl rfl (by kernel_rfl) (impl_cons (impl_at 0 rfl) impl_nil) rfl ?_; rintro _ _ _ ⟨fx1, rfl, rfl, rfl⟩; refine ⟨trivial, ?_⟩
 refine mv (.tuple _) rfl <| xtr (.slice _ _ _) rfl rfl <| xtr (.string _) rfl rfl <| agl rfl <| ags rfl <| jsr <| mvs rfl <| ags rfl <| jt <| c_ret ?_
 exact j_z (own0 := []) (ro0 := [tDb64 11]) (.inl rfl) rfl (hr1 Tryz.results158 (rvt (v := (.string _)) rfl)) rfl (⟨_, rfl, rfl, rfl⟩)
theorem sFormatIntN_ct (n : Int) (hn : n < 0) (hl : -9223372036854775808 ≤ n) : Ct Tryz.prog 142 [.int .i64 n, .int .i64 16] [] [tDb64 11] (fun v o r => ∃ x : Str, v = strV x ∧ o = [] ∧ r = []) := by
 refine ct_enter Tryz.func142 rfl Tryz.ntmps142 (by kernel_rfl) rfl fun w0 => ?_
 refine csr <| ags rfl <| jsr <| mvi rfl <| mvi rfl <| cal (FormatIntN_ct n hn hl) [] [] [] rfl rfl rfl (by kernel_rfl) (impl_cons (impl_at 0 rfl) impl_nil) rfl ?_; rintro _ _ _ ⟨fy, rfl, rfl, rfl⟩; refine ⟨trivial, ?_⟩
 refine ags rfl <| jt <| c_ret ?_
 exact j_z (own0 := []) (ro0 := [tDb64 11]) (.inl rfl) rfl (hr1 Tryz.results142 (rvt (v := (.string _)) rfl)) rfl (⟨_, rfl, rfl, rfl⟩)
theorem sFormatIntZ_ct (n : Int) (h1 : -9223372036854775808 ≤ n) (h2 : n < 9223372036854775808) : Ct Tryz.prog 142 [.int .i64 n, .int .i64 16] [] [tDb64 11] (fun v o r => ∃ x : Str, (0 ≤ n → x = fmtN 16 n.toNat) ∧ v = strV x ∧ o = [] ∧ r = []) := by
  by_cases h : n < 0
  · exact (sFormatIntN_ct n h h1).mono fun v o r ⟨x, e1, e2, e3⟩ => ⟨x, fun h0 => by omega, e1, e2, e3⟩
  · obtain ⟨c, rfl⟩ := Int.eq_ofNat_of_zero_le (show 0 ≤ n by omega)
    exact (sFormatInt16_ct c (by omega)).mono fun v o r ⟨e1, e2, e3⟩ => ⟨_, fun _ => by rw [Int.toNat_natCast], e1, e2, e3⟩
theorem iParseInt_ct (w : Str) (hw : w.length ≤ 9223372036854775806) : Ct Tryz.prog 155 [strV w, .int .i64 16, .int .i64 32] [] [] (fun v o r => (∃ n : Int, (-2147483648 ≤ n ∧ n < 2147483648) ∧ (∀ m : Nat, m < 2147483648 → w = fmtN 16 m → n = (m : Int)) ∧ v = .tuple #[.int .i64 n, .nilIface] ∧ o = [] ∧ r = []) ∨ ((∀ m : Nat, m < 2147483648 → w ≠ fmtN 16 m) ∧ ∃ n : Int, (v = .tuple #[.int .i64 n, .iface 212 (.int .i64 1)] ∨ v = .tuple #[.int .i64 n, .iface 212 (.int .i64 2)]) ∧ o = [] ∧ r = [])) := by
 refine ct_enter Tryz.func155 rfl Tryz.ntmps155 (by kernel_rfl) rfl fun w0 => ?_
 refine csr <| agi rfl <| asg .nilIface rfl <| jt <| c_seq <| csr <| mvs rfl <| scmp (a := w) (b := ([] : Str)) _ rfl rfl uy9 rfl <| jt <| c_cond rfl (fun h1 => ?_) (fun h1 => ?_)
 ·replace h1 := of_decide_eq_true h1
  refine csr <| mki (v := (.int _ _)) rfl uy212 rfl <| agi rfl <| asg (.iface _ _) rfl <| jt <| c_ret ?_
  exact j_z (own0 := []) (ro0 := []) (.inl rfl) rfl (hr2 Tryz.results155 (rvt (v := (.int _ _)) rfl) (rvt (v := (.iface _ _)) rfl)) rfl (.inr ⟨fun m hm e => fmt_ne (e.symm.trans h1), 0, .inr rfl, rfl, rfl⟩)
 ·replace h1 := of_decide_eq_false h1
  refine c_skip <| e_then <| csr <| agb rfl <| jt <| c_seq <| csr <| mvs rfl <| idxT (s := w) 0 rfl rfl uy9 rfl (List.length_pos_iff.2 h1) <| jt <| c_block <| csr <| equ8 (a := (List.getD w 0 0)) (b := (43 : UInt8)) _ rfl rfl rfl <| agb rfl <| jt <| c_cond rfl (fun h2 => ?_) (fun h2 => ?_)
  ·replace h2 := of_decide_eq_true h2
   refine c_reg <| mvs rfl <| cutT (s := w) 1 w.length rfl uy9 ⟨_, rfl⟩ rfl (by have := List.length_pos_iff.2 h1; omega) (by omega) (List.drop 1 w) (cut_hi _ _) <| ags rfl <| jn <| e_in <| e_then <| csr <| agi rfl <| jsr <| mvs rfl <| mvi rfl <| mvi rfl <| cal (iParseUint16_ct (List.drop 1 w) (by first | omega | (rw [List.length_drop]; omega))) [] [] [] rfl rfl rfl (by kernel_rfl) impl_nil rfl ?_; rintro _ _ _ (⟨pn1, hp1, rfl, rfl, rfl⟩ | ⟨hp1, pn1, _, ⟨rfl, hmx1⟩ | rfl, rfl, rfl, rfl⟩)
   ·refine ⟨trivial, ?_⟩
    refine mv (.tuple _) rfl <| xtr (.int _ _) rfl rfl <| xtr .nilIface rfl rfl <| agi rfl <| asg .nilIface rfl <| jt <| c_seq <| csr <| mv .nilIface rfl <| eqnn false rfl uy24 rfl <| mvb rfl <| g_off rfl rfl rfl rfl <| g_off rfl rfl rfl rfl <| g_off rfl rfl rfl rfl <| pkf (.bool _) rfl rfl <| jt <| c_false rfl <| c_skip <| e_then <| c_seq <| csr <| mvi rfl <| cmp false rfl rfl rfl <| jt <| c_false rfl <| c_skip <| e_then <| csr <| mvi rfl <| bopI (.int .i64 31) rfl rfl (by kernel_rfl) <| cvI 31 rfl uy3 uy161 (by kernel_rfl) <| bopI (.int .u64 2147483648) rfl rfl (by kernel_rfl) <| agi rfl <| jt <| c_seq <| c_seq <| c_reg ?_
    refine mvb rfl <| not_ rfl <| mvb rfl <| g_on rfl rfl rfl <| mvi rfl <| g_on rfl rfl rfl <| mvi rfl <| g_on rfl rfl rfl <| cmp _ rfl rfl rfl <| pkt (.bool _) rfl rfl <| jt <| c_cond rfl (fun h3 => ?_) (fun h3 => ?_)
    ·replace h3 := of_decide_eq_true h3
     refine csr <| mvi rfl <| bopI (.int .u64 2147483647) rfl rfl (by kernel_rfl) <| cvI 2147483647 rfl uy72 uy2 (by kernel_rfl) <| mki (v := (.int _ _)) rfl uy212 rfl <| agi rfl <| asg (.iface _ _) rfl <| jt <| c_ret ?_
     exact j_z (own0 := []) (ro0 := []) (.inl rfl) rfl (hr2 Tryz.results155 (rvt (v := (.int _ _)) rfl) (rvt (v := (.iface _ _)) rfl)) rfl (.inr ⟨fun m hm e => by first | exact absurd e (fmt_sign (.inl (by assumption))) | exact absurd e (fmt_sign (.inr (by assumption))) | exact absurd e (hp1 m (by omega)) | (have h9 := hp1 m (by omega) e; omega), 2147483647, .inl rfl, rfl, rfl⟩)
    ·replace h3 := of_decide_eq_false h3
     refine c_skip <| e_then <| c_seq <| csr <| mvb rfl <| mvb rfl <| g_off rfl rfl rfl rfl <| g_off rfl rfl rfl rfl <| g_off rfl rfl rfl rfl <| pkf (.bool _) rfl rfl <| jt <| c_false rfl <| c_skip <| e_then <| csr <| mvi rfl <| cvI (pn1.toNat : Int) rfl uy72 uy2 (wI64 (by omega)) <| agi rfl <| jt <| c_seq <| csr <| mvb rfl <| jt <| c_false rfl <| c_skip <| e_then <| csr <| mvi rfl <| agi rfl <| asg .nilIface rfl <| jt <| c_ret ?_
     exact j_z (own0 := []) (ro0 := []) (.inl rfl) rfl (hr2 Tryz.results155 (rvt (v := (.int _ _)) rfl) (rvt (v := .nilIface) rfl)) rfl (.inl ⟨_, ⟨by omega, by omega⟩, fun m hm e => by first | exact absurd e (fmt_sign (.inl (by assumption))) | exact absurd e (fmt_sign (.inr (by assumption))) | exact absurd e (hp1 m (by omega)) | (have h9 := hp1 m (by omega) e; omega), rfl, rfl, rfl⟩)
   ·refine ⟨trivial, ?_⟩
    refine mv (.tuple _) rfl <| xtr (.int _ _) rfl rfl <| xtr (.iface _ _) rfl rfl <| agi rfl <| asg (.iface _ _) rfl <| jt <| c_seq <| csr <| mv (.iface _ _) rfl <| eqin true rfl rfl uy24 rfl <| mvb rfl <| g_on rfl rfl rfl <| mv (.iface _ _) rfl <| g_on rfl rfl rfl <| mki (v := (.int _ _)) rfl uy212 rfl <| g_on rfl rfl rfl <| eqii false rfl rfl uy24 uy212 (by kernel_rfl) rfl <| pkt (.bool _) rfl rfl <| jt <| c_false rfl <| c_skip <| e_then <| c_seq <| csr <| mvi rfl <| cmp false rfl rfl rfl <| jt <| c_false rfl <| c_skip <| e_then <| csr <| mvi rfl <| bopI (.int .i64 31) rfl rfl (by kernel_rfl) <| cvI 31 rfl uy3 uy161 (by kernel_rfl) <| bopI (.int .u64 2147483648) rfl rfl (by kernel_rfl) <| agi rfl <| jt ?_
    refine c_seq <| csr <| mvb rfl <| not_ rfl <| mvb rfl <| g_on rfl rfl rfl <| mvi rfl <| g_on rfl rfl rfl <| mvi rfl <| g_on rfl rfl rfl <| cmp _ rfl rfl rfl <| pkt (.bool _) rfl rfl <| jt <| c_cond rfl (fun h4 => ?_) (fun h4 => ?_)
    ·replace h4 := of_decide_eq_true h4
     refine csr <| mvi rfl <| bopI (.int .u64 2147483647) rfl rfl (by kernel_rfl) <| cvI 2147483647 rfl uy72 uy2 (by kernel_rfl) <| mki (v := (.int _ _)) rfl uy212 rfl <| agi rfl <| asg (.iface _ _) rfl <| jt <| c_ret ?_
     exact j_z (own0 := []) (ro0 := []) (.inl rfl) rfl (hr2 Tryz.results155 (rvt (v := (.int _ _)) rfl) (rvt (v := (.iface _ _)) rfl)) rfl (.inr ⟨fun m hm e => by first | exact absurd e (fmt_sign (.inl (by assumption))) | exact absurd e (fmt_sign (.inr (by assumption))) | exact absurd e (hp1 m (by omega)) | (have h9 := hp1 m (by omega) e; omega), 2147483647, .inl rfl, rfl, rfl⟩)
    ·replace h4 := of_decide_eq_false h4
     refine c_skip <| e_then <| c_seq <| csr <| mvb rfl <| mvb rfl <| g_off rfl rfl rfl rfl <| g_off rfl rfl rfl rfl <| g_off rfl rfl rfl rfl <| pkf (.bool _) rfl rfl <| jt <| c_false rfl <| c_skip <| e_then <| csr <| mvi rfl <| cvI (pn1.toNat : Int) rfl uy72 uy2 (wI64 (by omega)) <| agi rfl <| jt <| c_seq <| csr <| mvb rfl <| jt <| c_false rfl <| c_skip <| e_then <| csr <| mvi rfl <| agi rfl <| asg .nilIface rfl <| jt <| c_ret ?_
     exact j_z (own0 := []) (ro0 := []) (.inl rfl) rfl (hr2 Tryz.results155 (rvt (v := (.int _ _)) rfl) (rvt (v := .nilIface) rfl)) rfl (.inl ⟨_, ⟨by omega, by omega⟩, fun m hm e => by first | exact absurd e (fmt_sign (.inl (by assumption))) | exact absurd e (fmt_sign (.inr (by assumption))) | exact absurd e (hp1 m (by omega)) | (have h9 := hp1 m (by omega) e; omega), rfl, rfl, rfl⟩)
   ·refine ⟨trivial, ?_⟩
    refine mv (.tuple _) rfl <| xtr (.int _ _) rfl rfl <| xtr (.iface _ _) rfl rfl <| agi rfl <| asg (.iface _ _) rfl <| jt <| c_seq <| csr <| mv (.iface _ _) rfl <| eqin true rfl rfl uy24 rfl <| mvb rfl <| g_on rfl rfl rfl <| mv (.iface _ _) rfl <| g_on rfl rfl rfl <| mki (v := (.int _ _)) rfl uy212 rfl <| g_on rfl rfl rfl <| eqii true rfl rfl uy24 uy212 (by kernel_rfl) rfl <| pkt (.bool _) rfl rfl <| jt <| c_true rfl <| csr <| mv (.iface _ _) rfl <| agi rfl <| asg (.iface _ _) rfl <| jt <| c_ret ?_
    exact j_z (own0 := []) (ro0 := []) (.inl rfl) rfl (hr2 Tryz.results155 (rvt (v := (.int _ _)) rfl) (rvt (v := (.iface _ _)) rfl)) rfl (.inr ⟨fun m hm e => by first | exact absurd e (fmt_sign (.inl (by assumption))) | exact absurd e (fmt_sign (.inr (by assumption))) | exact absurd e (hp1 m (by omega)) | (have h9 := hp1 m (by omega) e; omega), 0, .inr rfl, rfl, rfl⟩)
  ·replace h2 := of_decide_eq_false h2
   refine csr <| equ8 (a := (List.getD w 0 0)) (b := (45 : UInt8)) _ rfl rfl rfl <| agb rfl <| jt <| c_cond rfl (fun h5 => ?_) (fun h5 => ?_)
   ·replace h5 := of_decide_eq_true h5
    refine csr <| mvs rfl <| cutT (s := w) 1 w.length rfl uy9 ⟨_, rfl⟩ rfl (by have := List.length_pos_iff.2 h1; omega) (by omega) (List.drop 1 w) (cut_hi _ _) <| ags rfl <| jr <| agb rfl <| jn <| e_in <| e_then <| csr <| agi rfl <| jsr <| mvs rfl <| mvi rfl <| mvi rfl <| cal (iParseUint16_ct (List.drop 1 w) (by first | omega | (rw [List.length_drop]; omega))) [] [] [] rfl rfl rfl (by kernel_rfl) impl_nil rfl ?_; rintro _ _ _ (⟨pn2, hp2, rfl, rfl, rfl⟩ | ⟨hp2, pn2, _, ⟨rfl, hmx2⟩ | rfl, rfl, rfl, rfl⟩)
    ·refine ⟨trivial, ?_⟩
     refine mv (.tuple _) rfl <| xtr (.int _ _) rfl rfl <| xtr .nilIface rfl rfl <| agi rfl <| asg .nilIface rfl <| jt <| c_seq <| csr <| mv .nilIface rfl <| eqnn false rfl uy24 rfl <| mvb rfl <| g_off rfl rfl rfl rfl <| g_off rfl rfl rfl rfl <| g_off rfl rfl rfl rfl <| pkf (.bool _) rfl rfl <| jt <| c_false rfl <| c_skip <| e_then <| c_seq <| csr <| mvi rfl <| cmp false rfl rfl rfl <| jt <| c_false rfl <| c_skip <| e_then <| csr <| mvi rfl <| bopI (.int .i64 31) rfl rfl (by kernel_rfl) <| cvI 31 rfl uy3 uy161 (by kernel_rfl) <| bopI (.int .u64 2147483648) rfl rfl (by kernel_rfl) <| agi rfl <| jt <| c_seq <| c_seq <| c_reg ?_
     refine mvb rfl <| not_ rfl <| mvb rfl <| g_off rfl rfl rfl rfl <| g_off rfl rfl rfl rfl <| g_off rfl rfl rfl rfl <| pkf (.bool _) rfl rfl <| jt <| c_false rfl <| c_skip <| e_then <| c_seq <| csr <| mvb rfl <| mvb rfl <| g_on rfl rfl rfl <| mvi rfl <| g_on rfl rfl rfl <| mvi rfl <| g_on rfl rfl rfl <| cmp _ rfl rfl rfl <| pkt (.bool _) rfl rfl <| jt <| c_cond rfl (fun h6 => ?_) (fun h6 => ?_)
     ·replace h6 := of_decide_eq_true h6
      refine csr <| mvi rfl <| cvI 2147483648 rfl uy72 uy2 (by kernel_rfl) <| negC (-2147483648) rfl (by kernel_rfl) <| mki (v := (.int _ _)) rfl uy212 rfl <| agi rfl <| asg (.iface _ _) rfl <| jt <| c_ret ?_
      exact j_z (own0 := []) (ro0 := []) (.inl rfl) rfl (hr2 Tryz.results155 (rvt (v := (.int _ _)) rfl) (rvt (v := (.iface _ _)) rfl)) rfl (.inr ⟨fun m hm e => by first | exact absurd e (fmt_sign (.inl (by assumption))) | exact absurd e (fmt_sign (.inr (by assumption))) | exact absurd e (hp2 m (by omega)) | (have h9 := hp2 m (by omega) e; omega), (-2147483648), .inl rfl, rfl, rfl⟩)
     ·replace h6 := of_decide_eq_false h6
      refine c_skip <| e_then <| csr <| mvi rfl <| cvI (pn2.toNat : Int) rfl uy72 uy2 (wI64 (by omega)) <| agi rfl <| jt <| c_seq <| csr <| mvb rfl <| jt <| c_true rfl <| c_reg <| mvi rfl <| negI rfl (by omega) <| agi rfl <| jsr <| mvi rfl <| agi rfl <| asg .nilIface rfl <| jt <| c_ret ?_
      exact j_z (own0 := []) (ro0 := []) (.inl rfl) rfl (hr2 Tryz.results155 (rvt (v := (.int _ _)) rfl) (rvt (v := .nilIface) rfl)) rfl (.inl ⟨_, ⟨by omega, by omega⟩, fun m hm e => by first | exact absurd e (fmt_sign (.inl (by assumption))) | exact absurd e (fmt_sign (.inr (by assumption))) | exact absurd e (hp2 m (by omega)) | (have h9 := hp2 m (by omega) e; omega), rfl, rfl, rfl⟩)
    ·refine ⟨trivial, ?_⟩
     refine mv (.tuple _) rfl <| xtr (.int _ _) rfl rfl <| xtr (.iface _ _) rfl rfl <| agi rfl <| asg (.iface _ _) rfl <| jt <| c_seq <| csr <| mv (.iface _ _) rfl <| eqin true rfl rfl uy24 rfl <| mvb rfl <| g_on rfl rfl rfl <| mv (.iface _ _) rfl <| g_on rfl rfl rfl <| mki (v := (.int _ _)) rfl uy212 rfl <| g_on rfl rfl rfl <| eqii false rfl rfl uy24 uy212 (by kernel_rfl) rfl <| pkt (.bool _) rfl rfl <| jt <| c_false rfl <| c_skip <| e_then <| c_seq <| csr <| mvi rfl <| cmp false rfl rfl rfl <| jt <| c_false rfl <| c_skip <| e_then <| csr <| mvi rfl <| bopI (.int .i64 31) rfl rfl (by kernel_rfl) <| cvI 31 rfl uy3 uy161 (by kernel_rfl) <| bopI (.int .u64 2147483648) rfl rfl (by kernel_rfl) <| agi rfl <| jt ?_
     refine c_seq <| csr <| mvb rfl <| not_ rfl <| mvb rfl <| g_off rfl rfl rfl rfl <| g_off rfl rfl rfl rfl <| g_off rfl rfl rfl rfl <| pkf (.bool _) rfl rfl <| jt <| c_false rfl <| c_skip <| e_then <| c_seq <| csr <| mvb rfl <| mvb rfl <| g_on rfl rfl rfl <| mvi rfl <| g_on rfl rfl rfl <| mvi rfl <| g_on rfl rfl rfl <| cmp _ rfl rfl rfl <| pkt (.bool _) rfl rfl <| jt <| c_cond rfl (fun h7 => ?_) (fun h7 => ?_)
     ·replace h7 := of_decide_eq_true h7
      refine csr <| mvi rfl <| cvI 2147483648 rfl uy72 uy2 (by kernel_rfl) <| negC (-2147483648) rfl (by kernel_rfl) <| mki (v := (.int _ _)) rfl uy212 rfl <| agi rfl <| asg (.iface _ _) rfl <| jt <| c_ret ?_
      exact j_z (own0 := []) (ro0 := []) (.inl rfl) rfl (hr2 Tryz.results155 (rvt (v := (.int _ _)) rfl) (rvt (v := (.iface _ _)) rfl)) rfl (.inr ⟨fun m hm e => by first | exact absurd e (fmt_sign (.inl (by assumption))) | exact absurd e (fmt_sign (.inr (by assumption))) | exact absurd e (hp2 m (by omega)) | (have h9 := hp2 m (by omega) e; omega), (-2147483648), .inl rfl, rfl, rfl⟩)
     ·replace h7 := of_decide_eq_false h7
      refine c_skip <| e_then <| csr <| mvi rfl <| cvI (pn2.toNat : Int) rfl uy72 uy2 (wI64 (by omega)) <| agi rfl <| jt <| c_seq <| csr <| mvb rfl <| jt <| c_true rfl <| c_reg <| mvi rfl <| negI rfl (by omega) <| agi rfl <| jsr <| mvi rfl <| agi rfl <| asg .nilIface rfl <| jt <| c_ret ?_
      exact j_z (own0 := []) (ro0 := []) (.inl rfl) rfl (hr2 Tryz.results155 (rvt (v := (.int _ _)) rfl) (rvt (v := .nilIface) rfl)) rfl (.inl ⟨_, ⟨by omega, by omega⟩, fun m hm e => by first | exact absurd e (fmt_sign (.inl (by assumption))) | exact absurd e (fmt_sign (.inr (by assumption))) | exact absurd e (hp2 m (by omega)) | (have h9 := hp2 m (by omega) e; omega), rfl, rfl, rfl⟩)
    ·refine ⟨trivial, ?_⟩
     refine mv (.tuple _) rfl <| xtr (.int _ _) rfl rfl <| xtr (.iface _ _) rfl rfl <| agi rfl <| asg (.iface _ _) rfl <| jt <| c_seq <| csr <| mv (.iface _ _) rfl <| eqin true rfl rfl uy24 rfl <| mvb rfl <| g_on rfl rfl rfl <| mv (.iface _ _) rfl <| g_on rfl rfl rfl <| mki (v := (.int _ _)) rfl uy212 rfl <| g_on rfl rfl rfl <| eqii true rfl rfl uy24 uy212 (by kernel_rfl) rfl <| pkt (.bool _) rfl rfl <| jt <| c_true rfl <| csr <| mv (.iface _ _) rfl <| agi rfl <| asg (.iface _ _) rfl <| jt <| c_ret ?_
     exact j_z (own0 := []) (ro0 := []) (.inl rfl) rfl (hr2 Tryz.results155 (rvt (v := (.int _ _)) rfl) (rvt (v := (.iface _ _)) rfl)) rfl (.inr ⟨fun m hm e => by first | exact absurd e (fmt_sign (.inl (by assumption))) | exact absurd e (fmt_sign (.inr (by assumption))) | exact absurd e (hp2 m (by omega)) | (have h9 := hp2 m (by omega) e; omega), 0, .inr rfl, rfl, rfl⟩)
   ·replace h5 := of_decide_eq_false h5
    refine c_skip <| e_in <| e_then <| csr <| agi rfl <| jsr <| mvs rfl <| mvi rfl <| mvi rfl <| cal (iParseUint16_ct w (by first | omega | (rw [List.length_drop]; omega))) [] [] [] rfl rfl rfl (by kernel_rfl) impl_nil rfl ?_; rintro _ _ _ (⟨pn3, hp3, rfl, rfl, rfl⟩ | ⟨hp3, pn3, _, ⟨rfl, hmx3⟩ | rfl, rfl, rfl, rfl⟩)
    ·refine ⟨trivial, ?_⟩
     refine mv (.tuple _) rfl <| xtr (.int _ _) rfl rfl <| xtr .nilIface rfl rfl <| agi rfl <| asg .nilIface rfl <| jt <| c_seq <| csr <| mv .nilIface rfl <| eqnn false rfl uy24 rfl <| mvb rfl <| g_off rfl rfl rfl rfl <| g_off rfl rfl rfl rfl <| g_off rfl rfl rfl rfl <| pkf (.bool _) rfl rfl <| jt <| c_false rfl <| c_skip <| e_then <| c_seq <| csr <| mvi rfl <| cmp false rfl rfl rfl <| jt <| c_false rfl <| c_skip <| e_then <| csr <| mvi rfl <| bopI (.int .i64 31) rfl rfl (by kernel_rfl) <| cvI 31 rfl uy3 uy161 (by kernel_rfl) <| bopI (.int .u64 2147483648) rfl rfl (by kernel_rfl) <| agi rfl <| jt <| c_seq <| c_seq <| c_reg ?_
     refine mvb rfl <| not_ rfl <| mvb rfl <| g_on rfl rfl rfl <| mvi rfl <| g_on rfl rfl rfl <| mvi rfl <| g_on rfl rfl rfl <| cmp _ rfl rfl rfl <| pkt (.bool _) rfl rfl <| jt <| c_cond rfl (fun h8 => ?_) (fun h8 => ?_)
     ·replace h8 := of_decide_eq_true h8
      refine csr <| mvi rfl <| bopI (.int .u64 2147483647) rfl rfl (by kernel_rfl) <| cvI 2147483647 rfl uy72 uy2 (by kernel_rfl) <| mki (v := (.int _ _)) rfl uy212 rfl <| agi rfl <| asg (.iface _ _) rfl <| jt <| c_ret ?_
      exact j_z (own0 := []) (ro0 := []) (.inl rfl) rfl (hr2 Tryz.results155 (rvt (v := (.int _ _)) rfl) (rvt (v := (.iface _ _)) rfl)) rfl (.inr ⟨fun m hm e => by first | exact absurd e (fmt_sign (.inl (by assumption))) | exact absurd e (fmt_sign (.inr (by assumption))) | exact absurd e (hp3 m (by omega)) | (have h9 := hp3 m (by omega) e; omega), 2147483647, .inl rfl, rfl, rfl⟩)
     ·replace h8 := of_decide_eq_false h8
      refine c_skip <| e_then <| c_seq <| csr <| mvb rfl <| mvb rfl <| g_off rfl rfl rfl rfl <| g_off rfl rfl rfl rfl <| g_off rfl rfl rfl rfl <| pkf (.bool _) rfl rfl <| jt <| c_false rfl <| c_skip <| e_then <| csr <| mvi rfl <| cvI (pn3.toNat : Int) rfl uy72 uy2 (wI64 (by omega)) <| agi rfl <| jt <| c_seq <| csr <| mvb rfl <| jt <| c_false rfl <| c_skip <| e_then <| csr <| mvi rfl <| agi rfl <| asg .nilIface rfl <| jt <| c_ret ?_
      exact j_z (own0 := []) (ro0 := []) (.inl rfl) rfl (hr2 Tryz.results155 (rvt (v := (.int _ _)) rfl) (rvt (v := .nilIface) rfl)) rfl (.inl ⟨_, ⟨by omega, by omega⟩, fun m hm e => by first | exact absurd e (fmt_sign (.inl (by assumption))) | exact absurd e (fmt_sign (.inr (by assumption))) | exact absurd e (hp3 m (by omega)) | (have h9 := hp3 m (by omega) e; omega), rfl, rfl, rfl⟩)
    ·refine ⟨trivial, ?_⟩
     refine mv (.tuple _) rfl <| xtr (.int _ _) rfl rfl <| xtr (.iface _ _) rfl rfl <| agi rfl <| asg (.iface _ _) rfl <| jt <| c_seq <| csr <| mv (.iface _ _) rfl <| eqin true rfl rfl uy24 rfl <| mvb rfl <| g_on rfl rfl rfl <| mv (.iface _ _) rfl <| g_on rfl rfl rfl <| mki (v := (.int _ _)) rfl uy212 rfl <| g_on rfl rfl rfl <| eqii false rfl rfl uy24 uy212 (by kernel_rfl) rfl <| pkt (.bool _) rfl rfl <| jt <| c_false rfl <| c_skip <| e_then <| c_seq <| csr <| mvi rfl <| cmp false rfl rfl rfl <| jt <| c_false rfl <| c_skip <| e_then <| csr <| mvi rfl <| bopI (.int .i64 31) rfl rfl (by kernel_rfl) <| cvI 31 rfl uy3 uy161 (by kernel_rfl) <| bopI (.int .u64 2147483648) rfl rfl (by kernel_rfl) <| agi rfl <| jt ?_
     refine c_seq <| csr <| mvb rfl <| not_ rfl <| mvb rfl <| g_on rfl rfl rfl <| mvi rfl <| g_on rfl rfl rfl <| mvi rfl <| g_on rfl rfl rfl <| cmp _ rfl rfl rfl <| pkt (.bool _) rfl rfl <| jt <| c_cond rfl (fun h9 => ?_) (fun h9 => ?_)
     ·replace h9 := of_decide_eq_true h9
      refine csr <| mvi rfl <| bopI (.int .u64 2147483647) rfl rfl (by kernel_rfl) <| cvI 2147483647 rfl uy72 uy2 (by kernel_rfl) <| mki (v := (.int _ _)) rfl uy212 rfl <| agi rfl <| asg (.iface _ _) rfl <| jt <| c_ret ?_
      exact j_z (own0 := []) (ro0 := []) (.inl rfl) rfl (hr2 Tryz.results155 (rvt (v := (.int _ _)) rfl) (rvt (v := (.iface _ _)) rfl)) rfl (.inr ⟨fun m hm e => by first | exact absurd e (fmt_sign (.inl (by assumption))) | exact absurd e (fmt_sign (.inr (by assumption))) | exact absurd e (hp3 m (by omega)) | (have h9 := hp3 m (by omega) e; omega), 2147483647, .inl rfl, rfl, rfl⟩)
     ·replace h9 := of_decide_eq_false h9
      refine c_skip <| e_then <| c_seq <| csr <| mvb rfl <| mvb rfl <| g_off rfl rfl rfl rfl <| g_off rfl rfl rfl rfl <| g_off rfl rfl rfl rfl <| pkf (.bool _) rfl rfl <| jt <| c_false rfl <| c_skip <| e_then <| csr <| mvi rfl <| cvI (pn3.toNat : Int) rfl uy72 uy2 (wI64 (by omega)) <| agi rfl <| jt <| c_seq <| csr <| mvb rfl <| jt <| c_false rfl <| c_skip <| e_then <| csr <| mvi rfl <| agi rfl <| asg .nilIface rfl <| jt <| c_ret ?_
      exact j_z (own0 := []) (ro0 := []) (.inl rfl) rfl (hr2 Tryz.results155 (rvt (v := (.int _ _)) rfl) (rvt (v := .nilIface) rfl)) rfl (.inl ⟨_, ⟨by omega, by omega⟩, fun m hm e => by first | exact absurd e (fmt_sign (.inl (by assumption))) | exact absurd e (fmt_sign (.inr (by assumption))) | exact absurd e (hp3 m (by omega)) | (have h9 := hp3 m (by omega) e; omega), rfl, rfl, rfl⟩)
    ·refine ⟨trivial, ?_⟩
     refine mv (.tuple _) rfl <| xtr (.int _ _) rfl rfl <| xtr (.iface _ _) rfl rfl <| agi rfl <| asg (.iface _ _) rfl <| jt <| c_seq <| csr <| mv (.iface _ _) rfl <| eqin true rfl rfl uy24 rfl <| mvb rfl <| g_on rfl rfl rfl <| mv (.iface _ _) rfl <| g_on rfl rfl rfl <| mki (v := (.int _ _)) rfl uy212 rfl <| g_on rfl rfl rfl <| eqii true rfl rfl uy24 uy212 (by kernel_rfl) rfl <| pkt (.bool _) rfl rfl <| jt <| c_true rfl <| csr <| mv (.iface _ _) rfl <| agi rfl <| asg (.iface _ _) rfl <| jt <| c_ret ?_
     exact j_z (own0 := []) (ro0 := []) (.inl rfl) rfl (hr2 Tryz.results155 (rvt (v := (.int _ _)) rfl) (rvt (v := (.iface _ _)) rfl)) rfl (.inr ⟨fun m hm e => by first | exact absurd e (fmt_sign (.inl (by assumption))) | exact absurd e (fmt_sign (.inr (by assumption))) | exact absurd e (hp3 m (by omega)) | (have h9 := hp3 m (by omega) e; omega), 0, .inr rfl, rfl, rfl⟩)
end Go.Proofs.YtakbbpahfclgnaaGreatDoor
namespace Go.Proofs.YtakbbpahfclgnaaGreatDoor
open Go Go.Proofs Go.PW
open Go.PW.Enc (enc val)
theorem sParseInt_ct (w : Str) (hw : w.length ≤ 140737488351232) (eu : TypeId) (ev : Value) (ru : TypeId) (rv : Value) : Ct Tryz.prog 141 [strV w, .int .i64 16, .int .i64 32] [] [tIf 7 eu ev, tIf 8 ru rv] (fun v o r => (∃ n : Int, (-2147483648 ≤ n ∧ n < 2147483648) ∧ (∀ m : Nat, m < 2147483648 → w = fmtN 16 m → n = (m : Int)) ∧ v = .tuple #[.int .i64 n, .nilIface] ∧ o = [] ∧ r = []) ∨ ((∀ m : Nat, m < 2147483648 → w ≠ fmtN 16 m) ∧ ∃ (n : Int) (u : TypeId) (x : Value), v = .tuple #[.int .i64 n, .iface u x] ∧ o = [] ∧ r = [])) := by
 refine ct_enter Tryz.func141 rfl Tryz.ntmps141 (by kernel_rfl) rfl fun w0 => ?_
 refine csr <| agi rfl <| asg .nilIface rfl <| jsr <| mvs rfl <| mvi rfl <| mvi rfl <| cal (iParseInt_ct w (by omega)) [] [] [] rfl rfl rfl (by kernel_rfl) impl_nil rfl ?_; rintro _ _ _ (⟨qn1, hr1, hq1, rfl, rfl, rfl⟩ | ⟨hq1, qn1, rfl | rfl, rfl, rfl⟩)
 ·refine ⟨trivial, ?_⟩
  refine mv (.tuple _) rfl <| xtr (.int _ _) rfl rfl <| xtr .nilIface rfl rfl <| agi rfl <| asg .nilIface rfl <| jt <| c_seq <| csr <| mv .nilIface rfl <| eqnn false rfl uy24 rfl <| jt <| c_false rfl <| c_skip <| e_then <| csr <| mvi rfl <| agi rfl <| asg .nilIface rfl <| jt <| c_ret ?_
  exact j_z (own0 := []) (ro0 := [tIf 7 eu ev, tIf 8 ru rv]) (.inl rfl) rfl (hr2 Tryz.results141 (rvt (v := (.int _ _)) rfl) (rvt (v := .nilIface) rfl)) rfl (.inl ⟨_, hr1, hq1, rfl, rfl, rfl⟩)
 ·refine ⟨trivial, ?_⟩
  refine mv (.tuple _) rfl <| xtr (.int _ _) rfl rfl <| xtr (.iface _ _) rfl rfl <| agi rfl <| asg (.iface _ _) rfl <| jt <| c_seq <| csr <| mv (.iface _ _) rfl <| eqin true rfl rfl uy24 rfl <| jt <| c_true rfl <| csr <| mvi rfl <| mvs rfl <| mvi rfl <| mvi rfl <| mv (.iface _ _) rfl <| cal (toError1_ct ([80, 97, 114, 115, 101, 73, 110, 116] : Str) w 16 32 (by omega) eu ev ru rv) [] [] [] rfl rfl rfl (by kernel_rfl) (impl_cons (impl_at 0 rfl) (impl_cons (impl_at 1 rfl) impl_nil)) rfl ?_; rintro _ _ _ ⟨tu2, tv2, rfl, rfl, rfl⟩; refine ⟨trivial, ?_⟩
  refine agi rfl <| asg (.iface _ _) rfl <| jt <| c_ret ?_
  exact j_z (own0 := []) (ro0 := [tIf 7 eu ev, tIf 8 ru rv]) (.inl rfl) rfl (hr2 Tryz.results141 (rvt (v := (.int _ _)) rfl) (rvt (v := (.iface _ _)) rfl)) rfl (.inr ⟨hq1, _, _, _, rfl, rfl, rfl⟩)
 ·refine ⟨trivial, ?_⟩
  refine mv (.tuple _) rfl <| xtr (.int _ _) rfl rfl <| xtr (.iface _ _) rfl rfl <| agi rfl <| asg (.iface _ _) rfl <| jt <| c_seq <| csr <| mv (.iface _ _) rfl <| eqin true rfl rfl uy24 rfl <| jt <| c_true rfl <| csr <| mvi rfl <| mvs rfl <| mvi rfl <| mvi rfl <| mv (.iface _ _) rfl <| cal (toError2_ct ([80, 97, 114, 115, 101, 73, 110, 116] : Str) w 16 32 (by omega) eu ev ru rv) [] [] [] rfl rfl rfl (by kernel_rfl) (impl_cons (impl_at 0 rfl) (impl_cons (impl_at 1 rfl) impl_nil)) rfl ?_; rintro _ _ _ ⟨tu3, tv3, rfl, rfl, rfl⟩; refine ⟨trivial, ?_⟩
  refine agi rfl <| asg (.iface _ _) rfl <| jt <| c_ret ?_
  exact j_z (own0 := []) (ro0 := [tIf 7 eu ev, tIf 8 ru rv]) (.inl rfl) rfl (hr2 Tryz.results141 (rvt (v := (.int _ _)) rfl) (rvt (v := (.iface _ _)) rfl)) rfl (.inr ⟨hq1, _, _, _, rfl, rfl, rfl⟩)
theorem ValidRune_ct (z : Int) : Ct Tryz.prog 143 [.int .i32 z] [] [] (fun v o r => v = .bool (vruneZ z) ∧ o = [] ∧ r = []) := by
 refine ct_enter Tryz.func143 rfl Tryz.ntmps143 (by kernel_rfl) rfl fun w0 => ?_
 refine csr <| agb rfl <| jt <| c_seq <| c_block <| csr <| mvi rfl <| cmp _ rfl rfl rfl <| mvb rfl <| jsplit 6 rfl (fun h1 => ?_) (fun h1 => ?_)
 ·replace h1 := of_decide_eq_true h1
  refine g_on rfl rfl rfl <| mvi rfl <| g_on rfl rfl rfl <| cmp _ rfl rfl rfl <| pkt (.bool _) rfl rfl <| agb rfl <| jt <| c_cond rfl (fun h2 => ?_) (fun h2 => ?_)
  ·replace h2 := of_decide_eq_true h2
   refine csr <| agb rfl <| jt <| c_ret ?_
   exact j_z (own0 := []) (ro0 := []) (.inl rfl) rfl (hr1 Tryz.results143 (rvt (v := (.bool _)) rfl)) rfl (⟨by rw [show vruneZ z = true from by rw [Bool.eq_iff_iff]; simp only [vruneZ, Bool.or_eq_true, Bool.and_eq_true, decide_eq_true_eq]; simp; omega], rfl, rfl⟩)
  ·replace h2 := of_decide_eq_false h2
   refine csr <| mvi rfl <| cmp _ rfl rfl rfl <| mvb rfl <| jsplit 13 rfl (fun h3 => ?_) (fun h3 => ?_)
   ·replace h3 := of_decide_eq_true h3
    refine g_on rfl rfl rfl <| mvi rfl <| g_on rfl rfl rfl <| cmp _ rfl rfl rfl <| pkt (.bool _) rfl rfl <| agb rfl <| jt <| c_cond rfl (fun h4 => ?_) (fun h4 => ?_)
    ·replace h4 := of_decide_eq_true h4
     refine csr <| agb rfl <| jt <| c_ret ?_
     exact j_z (own0 := []) (ro0 := []) (.inl rfl) rfl (hr1 Tryz.results143 (rvt (v := (.bool _)) rfl)) rfl (⟨by rw [show vruneZ z = true from by rw [Bool.eq_iff_iff]; simp only [vruneZ, Bool.or_eq_true, Bool.and_eq_true, decide_eq_true_eq]; simp; omega], rfl, rfl⟩)
    ·replace h4 := of_decide_eq_false h4
     refine c_skip <| e_in <| e_then <| csr <| agb rfl <| jt <| c_ret ?_
     exact j_z (own0 := []) (ro0 := []) (.inl rfl) rfl (hr1 Tryz.results143 (rvt (v := (.bool _)) rfl)) rfl (⟨by rw [show vruneZ z = false from by rw [Bool.eq_iff_iff]; simp only [vruneZ, Bool.or_eq_true, Bool.and_eq_true, decide_eq_true_eq]; simp; omega], rfl, rfl⟩)
   ·replace h3 := of_decide_eq_false h3
    refine g_off rfl rfl rfl rfl <| g_off rfl rfl rfl rfl <| pkf (.bool _) rfl rfl <| agb rfl <| jt <| c_false rfl <| c_skip <| e_in <| e_then <| csr <| agb rfl <| jt <| c_ret ?_
    exact j_z (own0 := []) (ro0 := []) (.inl rfl) rfl (hr1 Tryz.results143 (rvt (v := (.bool _)) rfl)) rfl (⟨by rw [show vruneZ z = false from by rw [Bool.eq_iff_iff]; simp only [vruneZ, Bool.or_eq_true, Bool.and_eq_true, decide_eq_true_eq]; simp; omega], rfl, rfl⟩)
 ·replace h1 := of_decide_eq_false h1
  refine g_off rfl rfl rfl rfl <| g_off rfl rfl rfl rfl <| pkf (.bool _) rfl rfl <| agb rfl <| jt <| c_false rfl <| csr <| mvi rfl <| cmp _ rfl rfl rfl <| mvb rfl <| jsplit 13 rfl (fun h5 => ?_) (fun h5 => ?_)
  ·replace h5 := of_decide_eq_true h5
   refine g_on rfl rfl rfl <| mvi rfl <| g_on rfl rfl rfl <| cmp _ rfl rfl rfl <| pkt (.bool _) rfl rfl <| agb rfl <| jt <| c_cond rfl (fun h6 => ?_) (fun h6 => ?_)
   ·replace h6 := of_decide_eq_true h6
    refine csr <| agb rfl <| jt <| c_ret ?_
    exact j_z (own0 := []) (ro0 := []) (.inl rfl) rfl (hr1 Tryz.results143 (rvt (v := (.bool _)) rfl)) rfl (⟨by rw [show vruneZ z = true from by rw [Bool.eq_iff_iff]; simp only [vruneZ, Bool.or_eq_true, Bool.and_eq_true, decide_eq_true_eq]; simp; omega], rfl, rfl⟩)
   ·replace h6 := of_decide_eq_false h6
    refine c_skip <| e_in <| e_then <| csr <| agb rfl <| jt <| c_ret ?_
    exact j_z (own0 := []) (ro0 := []) (.inl rfl) rfl (hr1 Tryz.results143 (rvt (v := (.bool _)) rfl)) rfl (⟨by rw [show vruneZ z = false from by rw [Bool.eq_iff_iff]; simp only [vruneZ, Bool.or_eq_true, Bool.and_eq_true, decide_eq_true_eq]; simp; omega], rfl, rfl⟩)
  ·replace h5 := of_decide_eq_false h5
   refine g_off rfl rfl rfl rfl <| g_off rfl rfl rfl rfl <| pkf (.bool _) rfl rfl <| agb rfl <| jt <| c_false rfl <| c_skip <| e_in <| e_then <| csr <| agb rfl <| jt <| c_ret ?_
   exact j_z (own0 := []) (ro0 := []) (.inl rfl) rfl (hr1 Tryz.results143 (rvt (v := (.bool _)) rfl)) rfl (⟨by rw [show vruneZ z = false from by rw [Bool.eq_iff_iff]; simp only [vruneZ, Bool.or_eq_true, Bool.and_eq_true, decide_eq_true_eq]; simp; omega], rfl, rfl⟩)
theorem appNA_ct (o : Ow) (xs : Str) (ho : o.ok xs) (hb : xs.length ≤ 140737488355320) (c : Nat) (hc : ¬ c < 128) (hv : vrune c = true) : Ct Tryz.prog 159 [.slice o.adr xs.length o.cap, .int .i32 (c : Int)] [o.seg xs 5] [] (fun v w r => ∃ o' : Ow, o'.ok (xs ++ enc8 c) ∧ v = .slice o'.adr (xs ++ enc8 c).length o'.cap ∧ w = [o'.seg (xs ++ enc8 c) 5] ∧ r = []) := by
 have HV := vrune_iff.1 hv
 have HU : (UInt32.ofNat c).toNat = c := by rw [UInt32.toNat_ofNat']; omega
 refine ct_enter Tryz.func159 rfl Tryz.ntmps159 (by kernel_rfl) rfl fun w0 => ?_
 refine csr <| agl rfl <| jsr <| mvi rfl <| cvNU32 (n := c) rfl uy21 uy153 <| agi rfl <| jt <| c_block <| csr <| mvi rfl <| cmp _ rfl rfl rfl <| agb rfl <| jt <| c_cond rfl (fun h1 => ?_) (fun h1 => ?_)
 ·replace h1 := of_decide_eq_true h1
  refine csr <| mvl rfl <| mvi rfl <| shrn (a := c) (m := 64) 6 rfl rfl rfl (by decide) <| cvNU8 (n := (c / 64)) rfl uy21 uy5 <| orU8 (a := (192 : UInt8)) (b := (UInt8.ofNat (c / 64))) rfl rfl <| mvi rfl <| cvNU8 (n := c) rfl uy21 uy5 <| andU8 (a := (UInt8.ofNat c)) (b := (63 : UInt8)) rfl rfl <| orU8 (a := (128 : UInt8)) (b := ((UInt8.ofNat c) &&& (63 : UInt8))) rfl rfl <| bsl (α := UInt8) ([((192 : UInt8) ||| (UInt8.ofNat (c / 64))), ((128 : UInt8) ||| ((UInt8.ofNat c) &&& (63 : UInt8)))]) uy93 ty5.sz rfl (by decide) z5 rfl fun b23 => ⟨trivial, ?_⟩
  refine app 0 o xs ([((192 : UInt8) ||| (UInt8.ofNat (c / 64))), ((128 : UInt8) ||| ((UInt8.ofNat c) &&& (63 : UInt8)))] : List UInt8) ho rfl ⟨rfl, rfl, rfl⟩ rfl rfl (gives_own (ys := ([((192 : UInt8) ||| (UInt8.ofNat (c / 64))), ((128 : UInt8) ||| ((UInt8.ofNat c) &&& (63 : UInt8)))] : List UInt8)) (pre := []) (post := []) 1 rfl (by simp) rfl) uy93 uy93 (.inl ⟨_, rfl⟩) ty5.sz by5 z5 rfl (by simp; omega) rfl fun o24_1 hk24_1 => ⟨trivial, ?_⟩
  refine agl rfl <| jt <| c_ret ?_
  exact j_end (own0 := [o.seg xs 5]) (ro0 := []) (.inl rfl) rfl (hr1 Tryz.results159 (rvt (v := (.slice _ _ _)) rfl)) [0] [1] [_] [_] [] _ rfl rfl (by kernel_rfl) rfl impl_nil (⟨o24_1, (by rw [enc8_2 hc (by omega)]; exact hk24_1), by rw [enc8_2 hc (by omega)], by rw [enc8_2 hc (by omega)], rfl⟩)
 ·replace h1 := of_decide_eq_false h1
  refine c_seq <| csr <| mvi rfl <| cmp _ rfl rfl rfl <| agb rfl <| jt <| c_cond rfl (fun h2 => ?_) (fun h2 => ?_)
  ·replace h2 := of_decide_eq_true h2
   refine c_skip <| e_then <| c_cond rfl (fun h3 => ?_) (fun h3 => ?_)
   ·replace h3 := of_decide_eq_true h3
    refine csr <| mvl rfl <| mvi rfl <| shrn (a := c) (m := 4096) 12 rfl rfl rfl (by decide) <| cvNU8 (n := (c / 4096)) rfl uy21 uy5 <| orU8 (a := (224 : UInt8)) (b := (UInt8.ofNat (c / 4096))) rfl rfl <| mvi rfl <| shrn (a := c) (m := 64) 6 rfl rfl rfl (by decide) <| cvNU8 (n := (c / 64)) rfl uy21 uy5 <| andU8 (a := (UInt8.ofNat (c / 64))) (b := (63 : UInt8)) rfl rfl <| orU8 (a := (128 : UInt8)) (b := ((UInt8.ofNat (c / 64)) &&& (63 : UInt8))) rfl rfl <| mvi rfl <| cvNU8 (n := c) rfl uy21 uy5 <| andU8 (a := (UInt8.ofNat c)) (b := (63 : UInt8)) rfl rfl <| orU8 (a := (128 : UInt8)) (b := ((UInt8.ofNat c) &&& (63 : UInt8))) rfl rfl <| bsl (α := UInt8) ([((224 : UInt8) ||| (UInt8.ofNat (c / 4096))), ((128 : UInt8) ||| ((UInt8.ofNat (c / 64)) &&& (63 : UInt8))), ((128 : UInt8) ||| ((UInt8.ofNat c) &&& (63 : UInt8)))]) uy93 ty5.sz rfl (by decide) z5 rfl fun b48 => ⟨trivial, ?_⟩
    refine app 0 o xs ([((224 : UInt8) ||| (UInt8.ofNat (c / 4096))), ((128 : UInt8) ||| ((UInt8.ofNat (c / 64)) &&& (63 : UInt8))), ((128 : UInt8) ||| ((UInt8.ofNat c) &&& (63 : UInt8)))] : List UInt8) ho rfl ⟨rfl, rfl, rfl⟩ rfl rfl (gives_own (ys := ([((224 : UInt8) ||| (UInt8.ofNat (c / 4096))), ((128 : UInt8) ||| ((UInt8.ofNat (c / 64)) &&& (63 : UInt8))), ((128 : UInt8) ||| ((UInt8.ofNat c) &&& (63 : UInt8)))] : List UInt8)) (pre := []) (post := []) 1 rfl (by simp) rfl) uy93 uy93 (.inl ⟨_, rfl⟩) ty5.sz by5 z5 rfl (by simp; omega) rfl fun o49_2 hk49_2 => ⟨trivial, ?_⟩
    refine agl rfl <| jt <| c_ret ?_
    exact j_end (own0 := [o.seg xs 5]) (ro0 := []) (.inl rfl) rfl (hr1 Tryz.results159 (rvt (v := (.slice _ _ _)) rfl)) [0] [1] [_] [_] [] _ rfl rfl (by kernel_rfl) rfl impl_nil (⟨o49_2, (by rw [enc8_3 (by omega) (by omega)]; exact hk49_2), by rw [enc8_3 (by omega) (by omega)], by rw [enc8_3 (by omega) (by omega)], rfl⟩)
   ·replace h3 := of_decide_eq_false h3
    refine csr <| mvi rfl <| cmp _ rfl rfl rfl <| mvb rfl <| jsplit 53 rfl (fun h4 => ?_) (fun h4 => ?_)
    ·replace h4 := of_decide_eq_true h4
     refine g_on rfl rfl rfl <| mvi rfl <| g_on rfl rfl rfl <| cmp _ rfl rfl rfl <| pkt (.bool _) rfl rfl <| agb rfl <| jt <| c_cond rfl (fun h5 => ?_) (fun h5 => ?_)
     ·replace h5 := of_decide_eq_true h5
      refine csr <| mvl rfl <| mvi rfl <| shrn (a := c) (m := 262144) 18 rfl rfl rfl (by decide) <| cvNU8 (n := (c / 262144)) rfl uy21 uy5 <| orU8 (a := (240 : UInt8)) (b := (UInt8.ofNat (c / 262144))) rfl rfl <| mvi rfl <| shrn (a := c) (m := 4096) 12 rfl rfl rfl (by decide) <| cvNU8 (n := (c / 4096)) rfl uy21 uy5 <| andU8 (a := (UInt8.ofNat (c / 4096))) (b := (63 : UInt8)) rfl rfl <| orU8 (a := (128 : UInt8)) (b := ((UInt8.ofNat (c / 4096)) &&& (63 : UInt8))) rfl rfl <| mvi rfl <| shrn (a := c) (m := 64) 6 rfl rfl rfl (by decide) <| cvNU8 (n := (c / 64)) rfl uy21 uy5 <| andU8 (a := (UInt8.ofNat (c / 64))) (b := (63 : UInt8)) rfl rfl <| orU8 (a := (128 : UInt8)) (b := ((UInt8.ofNat (c / 64)) &&& (63 : UInt8))) rfl rfl <| mvi rfl <| cvNU8 (n := c) rfl uy21 uy5 <| andU8 (a := (UInt8.ofNat c)) (b := (63 : UInt8)) rfl rfl <| orU8 (a := (128 : UInt8)) (b := ((UInt8.ofNat c) &&& (63 : UInt8))) rfl rfl <| bsl (α := UInt8) ([((240 : UInt8) ||| (UInt8.ofNat (c / 262144))), ((128 : UInt8) ||| ((UInt8.ofNat (c / 4096)) &&& (63 : UInt8))), ((128 : UInt8) ||| ((UInt8.ofNat (c / 64)) &&& (63 : UInt8))), ((128 : UInt8) ||| ((UInt8.ofNat c) &&& (63 : UInt8)))]) uy93 ty5.sz rfl (by decide) z5 rfl fun b76 => ⟨trivial, ?_⟩
      refine app 0 o xs ([((240 : UInt8) ||| (UInt8.ofNat (c / 262144))), ((128 : UInt8) ||| ((UInt8.ofNat (c / 4096)) &&& (63 : UInt8))), ((128 : UInt8) ||| ((UInt8.ofNat (c / 64)) &&& (63 : UInt8))), ((128 : UInt8) ||| ((UInt8.ofNat c) &&& (63 : UInt8)))] : List UInt8) ho rfl ⟨rfl, rfl, rfl⟩ rfl rfl (gives_own (ys := ([((240 : UInt8) ||| (UInt8.ofNat (c / 262144))), ((128 : UInt8) ||| ((UInt8.ofNat (c / 4096)) &&& (63 : UInt8))), ((128 : UInt8) ||| ((UInt8.ofNat (c / 64)) &&& (63 : UInt8))), ((128 : UInt8) ||| ((UInt8.ofNat c) &&& (63 : UInt8)))] : List UInt8)) (pre := []) (post := []) 1 rfl (by simp) rfl) uy93 uy93 (.inl ⟨_, rfl⟩) ty5.sz by5 z5 rfl (by simp; omega) rfl fun o77_3 hk77_3 => ⟨trivial, ?_⟩
      refine agl rfl <| jt <| c_ret ?_
      exact j_end (own0 := [o.seg xs 5]) (ro0 := []) (.inl rfl) rfl (hr1 Tryz.results159 (rvt (v := (.slice _ _ _)) rfl)) [0] [1] [_] [_] [] _ rfl rfl (by kernel_rfl) rfl impl_nil (⟨o77_3, (by rw [enc8_4 (by omega) (by omega)]; exact hk77_3), by rw [enc8_4 (by omega) (by omega)], by rw [enc8_4 (by omega) (by omega)], rfl⟩)
     ·replace h5 := of_decide_eq_false h5
      refine csr <| mvl rfl <| bsl (α := UInt8) ([(239 : UInt8), (191 : UInt8), (189 : UInt8)]) uy93 ty5.sz rfl (by decide) z5 rfl fun b9 => ⟨trivial, ?_⟩
      refine app 0 o xs ([(239 : UInt8), (191 : UInt8), (189 : UInt8)] : List UInt8) ho rfl ⟨rfl, rfl, rfl⟩ rfl rfl (gives_own (ys := ([(239 : UInt8), (191 : UInt8), (189 : UInt8)] : List UInt8)) (pre := []) (post := []) 1 rfl (by simp) rfl) uy93 uy93 (.inl ⟨_, rfl⟩) ty5.sz by5 z5 rfl (by simp; omega) rfl fun o10_4 hk10_4 => ⟨trivial, ?_⟩
      refine agl rfl <| jt <| c_ret ?_
      exact j_end (own0 := [o.seg xs 5]) (ro0 := []) (.inl rfl) rfl (hr1 Tryz.results159 (rvt (v := (.slice _ _ _)) rfl)) [0] [1] [_] [_] [] _ rfl rfl (by kernel_rfl) rfl impl_nil (False.elim (by omega))
    ·replace h4 := of_decide_eq_false h4
     refine g_off rfl rfl rfl rfl <| g_off rfl rfl rfl rfl <| pkf (.bool _) rfl rfl <| agb rfl <| jt <| c_false rfl <| csr <| mvl rfl <| bsl (α := UInt8) ([(239 : UInt8), (191 : UInt8), (189 : UInt8)]) uy93 ty5.sz rfl (by decide) z5 rfl fun b9 => ⟨trivial, ?_⟩
     refine app 0 o xs ([(239 : UInt8), (191 : UInt8), (189 : UInt8)] : List UInt8) ho rfl ⟨rfl, rfl, rfl⟩ rfl rfl (gives_own (ys := ([(239 : UInt8), (191 : UInt8), (189 : UInt8)] : List UInt8)) (pre := []) (post := []) 1 rfl (by simp) rfl) uy93 uy93 (.inl ⟨_, rfl⟩) ty5.sz by5 z5 rfl (by simp; omega) rfl fun o10_5 hk10_5 => ⟨trivial, ?_⟩
     refine agl rfl <| jt <| c_ret ?_
     exact j_end (own0 := [o.seg xs 5]) (ro0 := []) (.inl rfl) rfl (hr1 Tryz.results159 (rvt (v := (.slice _ _ _)) rfl)) [0] [1] [_] [_] [] _ rfl rfl (by kernel_rfl) rfl impl_nil (False.elim (by omega))
  ·replace h2 := of_decide_eq_false h2
   refine c_reg <| mvi rfl <| cmp _ rfl rfl rfl <| mvb rfl <| jsplit 30 rfl (fun h6 => ?_) (fun h6 => ?_)
   ·replace h6 := of_decide_eq_true h6
    refine g_on rfl rfl rfl <| mvi rfl <| g_on rfl rfl rfl <| cmp _ rfl rfl rfl <| pkt (.bool _) rfl rfl <| agb rfl <| jt <| c_cond rfl (fun h7 => ?_) (fun h7 => ?_)
    ·replace h7 := of_decide_eq_true h7
     refine csr <| mvl rfl <| mvi rfl <| shrn (a := c) (m := 4096) 12 rfl rfl rfl (by decide) <| cvNU8 (n := (c / 4096)) rfl uy21 uy5 <| orU8 (a := (224 : UInt8)) (b := (UInt8.ofNat (c / 4096))) rfl rfl <| mvi rfl <| shrn (a := c) (m := 64) 6 rfl rfl rfl (by decide) <| cvNU8 (n := (c / 64)) rfl uy21 uy5 <| andU8 (a := (UInt8.ofNat (c / 64))) (b := (63 : UInt8)) rfl rfl <| orU8 (a := (128 : UInt8)) (b := ((UInt8.ofNat (c / 64)) &&& (63 : UInt8))) rfl rfl <| mvi rfl <| cvNU8 (n := c) rfl uy21 uy5 <| andU8 (a := (UInt8.ofNat c)) (b := (63 : UInt8)) rfl rfl <| orU8 (a := (128 : UInt8)) (b := ((UInt8.ofNat c) &&& (63 : UInt8))) rfl rfl <| bsl (α := UInt8) ([((224 : UInt8) ||| (UInt8.ofNat (c / 4096))), ((128 : UInt8) ||| ((UInt8.ofNat (c / 64)) &&& (63 : UInt8))), ((128 : UInt8) ||| ((UInt8.ofNat c) &&& (63 : UInt8)))]) uy93 ty5.sz rfl (by decide) z5 rfl fun b48 => ⟨trivial, ?_⟩
     refine app 0 o xs ([((224 : UInt8) ||| (UInt8.ofNat (c / 4096))), ((128 : UInt8) ||| ((UInt8.ofNat (c / 64)) &&& (63 : UInt8))), ((128 : UInt8) ||| ((UInt8.ofNat c) &&& (63 : UInt8)))] : List UInt8) ho rfl ⟨rfl, rfl, rfl⟩ rfl rfl (gives_own (ys := ([((224 : UInt8) ||| (UInt8.ofNat (c / 4096))), ((128 : UInt8) ||| ((UInt8.ofNat (c / 64)) &&& (63 : UInt8))), ((128 : UInt8) ||| ((UInt8.ofNat c) &&& (63 : UInt8)))] : List UInt8)) (pre := []) (post := []) 1 rfl (by simp) rfl) uy93 uy93 (.inl ⟨_, rfl⟩) ty5.sz by5 z5 rfl (by simp; omega) rfl fun o49_6 hk49_6 => ⟨trivial, ?_⟩
     refine agl rfl <| jt <| c_ret ?_
     exact j_end (own0 := [o.seg xs 5]) (ro0 := []) (.inl rfl) rfl (hr1 Tryz.results159 (rvt (v := (.slice _ _ _)) rfl)) [0] [1] [_] [_] [] _ rfl rfl (by kernel_rfl) rfl impl_nil (⟨o49_6, (by rw [enc8_3 (by omega) (by omega)]; exact hk49_6), by rw [enc8_3 (by omega) (by omega)], by rw [enc8_3 (by omega) (by omega)], rfl⟩)
    ·replace h7 := of_decide_eq_false h7
     refine csr <| mvi rfl <| cmp _ rfl rfl rfl <| mvb rfl <| jsplit 53 rfl (fun h8 => ?_) (fun h8 => ?_)
     ·replace h8 := of_decide_eq_true h8
      refine g_on rfl rfl rfl <| mvi rfl <| g_on rfl rfl rfl <| cmp _ rfl rfl rfl <| pkt (.bool _) rfl rfl <| agb rfl <| jt <| c_cond rfl (fun h9 => ?_) (fun h9 => ?_)
      ·replace h9 := of_decide_eq_true h9
       refine csr <| mvl rfl <| mvi rfl <| shrn (a := c) (m := 262144) 18 rfl rfl rfl (by decide) <| cvNU8 (n := (c / 262144)) rfl uy21 uy5 <| orU8 (a := (240 : UInt8)) (b := (UInt8.ofNat (c / 262144))) rfl rfl <| mvi rfl <| shrn (a := c) (m := 4096) 12 rfl rfl rfl (by decide) <| cvNU8 (n := (c / 4096)) rfl uy21 uy5 <| andU8 (a := (UInt8.ofNat (c / 4096))) (b := (63 : UInt8)) rfl rfl <| orU8 (a := (128 : UInt8)) (b := ((UInt8.ofNat (c / 4096)) &&& (63 : UInt8))) rfl rfl <| mvi rfl <| shrn (a := c) (m := 64) 6 rfl rfl rfl (by decide) <| cvNU8 (n := (c / 64)) rfl uy21 uy5 <| andU8 (a := (UInt8.ofNat (c / 64))) (b := (63 : UInt8)) rfl rfl <| orU8 (a := (128 : UInt8)) (b := ((UInt8.ofNat (c / 64)) &&& (63 : UInt8))) rfl rfl <| mvi rfl <| cvNU8 (n := c) rfl uy21 uy5 <| andU8 (a := (UInt8.ofNat c)) (b := (63 : UInt8)) rfl rfl <| orU8 (a := (128 : UInt8)) (b := ((UInt8.ofNat c) &&& (63 : UInt8))) rfl rfl <| bsl (α := UInt8) ([((240 : UInt8) ||| (UInt8.ofNat (c / 262144))), ((128 : UInt8) ||| ((UInt8.ofNat (c / 4096)) &&& (63 : UInt8))), ((128 : UInt8) ||| ((UInt8.ofNat (c / 64)) &&& (63 : UInt8))), ((128 : UInt8) ||| ((UInt8.ofNat c) &&& (63 : UInt8)))]) uy93 ty5.sz rfl (by decide) z5 rfl fun b76 => ⟨trivial, ?_⟩
       refine app 0 o xs ([((240 : UInt8) ||| (UInt8.ofNat (c / 262144))), ((128 : UInt8) ||| ((UInt8.ofNat (c / 4096)) &&& (63 : UInt8))), ((128 : UInt8) ||| ((UInt8.ofNat (c / 64)) &&& (63 : UInt8))), ((128 : UInt8) ||| ((UInt8.ofNat c) &&& (63 : UInt8)))] : List UInt8) ho rfl ⟨rfl, rfl, rfl⟩ rfl rfl (gives_own (ys := ([((240 : UInt8) ||| (UInt8.ofNat (c / 262144))), ((128 : UInt8) ||| ((UInt8.ofNat (c / 4096)) &&& (63 : UInt8))), ((128 : UInt8) ||| ((UInt8.ofNat (c / 64)) &&& (63 : UInt8))), ((128 : UInt8) ||| ((UInt8.ofNat c) &&& (63 : UInt8)))] : List UInt8)) (pre := []) (post := []) 1 rfl (by simp) rfl) uy93 uy93 (.inl ⟨_, rfl⟩) ty5.sz by5 z5 rfl (by simp; omega) rfl fun o77_7 hk77_7 => ⟨trivial, ?_⟩
       refine agl rfl <| jt <| c_ret ?_
       exact j_end (own0 := [o.seg xs 5]) (ro0 := []) (.inl rfl) rfl (hr1 Tryz.results159 (rvt (v := (.slice _ _ _)) rfl)) [0] [1] [_] [_] [] _ rfl rfl (by kernel_rfl) rfl impl_nil (⟨o77_7, (by rw [enc8_4 (by omega) (by omega)]; exact hk77_7), by rw [enc8_4 (by omega) (by omega)], by rw [enc8_4 (by omega) (by omega)], rfl⟩)
      ·replace h9 := of_decide_eq_false h9
       refine csr <| mvl rfl <| bsl (α := UInt8) ([(239 : UInt8), (191 : UInt8), (189 : UInt8)]) uy93 ty5.sz rfl (by decide) z5 rfl fun b9 => ⟨trivial, ?_⟩
       refine app 0 o xs ([(239 : UInt8), (191 : UInt8), (189 : UInt8)] : List UInt8) ho rfl ⟨rfl, rfl, rfl⟩ rfl rfl (gives_own (ys := ([(239 : UInt8), (191 : UInt8), (189 : UInt8)] : List UInt8)) (pre := []) (post := []) 1 rfl (by simp) rfl) uy93 uy93 (.inl ⟨_, rfl⟩) ty5.sz by5 z5 rfl (by simp; omega) rfl fun o10_8 hk10_8 => ⟨trivial, ?_⟩
       refine agl rfl <| jt <| c_ret ?_
       exact j_end (own0 := [o.seg xs 5]) (ro0 := []) (.inl rfl) rfl (hr1 Tryz.results159 (rvt (v := (.slice _ _ _)) rfl)) [0] [1] [_] [_] [] _ rfl rfl (by kernel_rfl) rfl impl_nil (False.elim (by omega))
     ·replace h8 := of_decide_eq_false h8
      refine g_off rfl rfl rfl rfl <| g_off rfl rfl rfl rfl <| pkf (.bool _) rfl rfl <| agb rfl <| jt <| c_false rfl <| csr <| mvl rfl <| bsl (α := UInt8) ([(239 : UInt8), (191 : UInt8), (189 : UInt8)]) uy93 ty5.sz rfl (by decide) z5 rfl fun b9 => ⟨trivial, ?_⟩
      refine app 0 o xs ([(239 : UInt8), (191 : UInt8), (189 : UInt8)] : List UInt8) ho rfl ⟨rfl, rfl, rfl⟩ rfl rfl (gives_own (ys := ([(239 : UInt8), (191 : UInt8), (189 : UInt8)] : List UInt8)) (pre := []) (post := []) 1 rfl (by simp) rfl) uy93 uy93 (.inl ⟨_, rfl⟩) ty5.sz by5 z5 rfl (by simp; omega) rfl fun o10_9 hk10_9 => ⟨trivial, ?_⟩
      refine agl rfl <| jt <| c_ret ?_
      exact j_end (own0 := [o.seg xs 5]) (ro0 := []) (.inl rfl) rfl (hr1 Tryz.results159 (rvt (v := (.slice _ _ _)) rfl)) [0] [1] [_] [_] [] _ rfl rfl (by kernel_rfl) rfl impl_nil (False.elim (by omega))
   ·replace h6 := of_decide_eq_false h6
    refine g_off rfl rfl rfl rfl <| g_off rfl rfl rfl rfl <| pkf (.bool _) rfl rfl <| agb rfl <| jt <| c_false rfl <| csr <| mvi rfl <| cmp _ rfl rfl rfl <| mvb rfl <| jsplit 53 rfl (fun h10 => ?_) (fun h10 => ?_)
    ·replace h10 := of_decide_eq_true h10
     refine g_on rfl rfl rfl <| mvi rfl <| g_on rfl rfl rfl <| cmp _ rfl rfl rfl <| pkt (.bool _) rfl rfl <| agb rfl <| jt <| c_cond rfl (fun h11 => ?_) (fun h11 => ?_)
     ·replace h11 := of_decide_eq_true h11
      refine csr <| mvl rfl <| mvi rfl <| shrn (a := c) (m := 262144) 18 rfl rfl rfl (by decide) <| cvNU8 (n := (c / 262144)) rfl uy21 uy5 <| orU8 (a := (240 : UInt8)) (b := (UInt8.ofNat (c / 262144))) rfl rfl <| mvi rfl <| shrn (a := c) (m := 4096) 12 rfl rfl rfl (by decide) <| cvNU8 (n := (c / 4096)) rfl uy21 uy5 <| andU8 (a := (UInt8.ofNat (c / 4096))) (b := (63 : UInt8)) rfl rfl <| orU8 (a := (128 : UInt8)) (b := ((UInt8.ofNat (c / 4096)) &&& (63 : UInt8))) rfl rfl <| mvi rfl <| shrn (a := c) (m := 64) 6 rfl rfl rfl (by decide) <| cvNU8 (n := (c / 64)) rfl uy21 uy5 <| andU8 (a := (UInt8.ofNat (c / 64))) (b := (63 : UInt8)) rfl rfl <| orU8 (a := (128 : UInt8)) (b := ((UInt8.ofNat (c / 64)) &&& (63 : UInt8))) rfl rfl <| mvi rfl <| cvNU8 (n := c) rfl uy21 uy5 <| andU8 (a := (UInt8.ofNat c)) (b := (63 : UInt8)) rfl rfl <| orU8 (a := (128 : UInt8)) (b := ((UInt8.ofNat c) &&& (63 : UInt8))) rfl rfl <| bsl (α := UInt8) ([((240 : UInt8) ||| (UInt8.ofNat (c / 262144))), ((128 : UInt8) ||| ((UInt8.ofNat (c / 4096)) &&& (63 : UInt8))), ((128 : UInt8) ||| ((UInt8.ofNat (c / 64)) &&& (63 : UInt8))), ((128 : UInt8) ||| ((UInt8.ofNat c) &&& (63 : UInt8)))]) uy93 ty5.sz rfl (by decide) z5 rfl fun b76 => ⟨trivial, ?_⟩
      refine app 0 o xs ([((240 : UInt8) ||| (UInt8.ofNat (c / 262144))), ((128 : UInt8) ||| ((UInt8.ofNat (c / 4096)) &&& (63 : UInt8))), ((128 : UInt8) ||| ((UInt8.ofNat (c / 64)) &&& (63 : UInt8))), ((128 : UInt8) ||| ((UInt8.ofNat c) &&& (63 : UInt8)))] : List UInt8) ho rfl ⟨rfl, rfl, rfl⟩ rfl rfl (gives_own (ys := ([((240 : UInt8) ||| (UInt8.ofNat (c / 262144))), ((128 : UInt8) ||| ((UInt8.ofNat (c / 4096)) &&& (63 : UInt8))), ((128 : UInt8) ||| ((UInt8.ofNat (c / 64)) &&& (63 : UInt8))), ((128 : UInt8) ||| ((UInt8.ofNat c) &&& (63 : UInt8)))] : List UInt8)) (pre := []) (post := []) 1 rfl (by simp) rfl) uy93 uy93 (.inl ⟨_, rfl⟩) ty5.sz by5 z5 rfl (by simp; omega) rfl fun o77_10 hk77_10 => ⟨trivial, ?_⟩
      refine agl rfl <| jt <| c_ret ?_
      exact j_end (own0 := [o.seg xs 5]) (ro0 := []) (.inl rfl) rfl (hr1 Tryz.results159 (rvt (v := (.slice _ _ _)) rfl)) [0] [1] [_] [_] [] _ rfl rfl (by kernel_rfl) rfl impl_nil (⟨o77_10, (by rw [enc8_4 (by omega) (by omega)]; exact hk77_10), by rw [enc8_4 (by omega) (by omega)], by rw [enc8_4 (by omega) (by omega)], rfl⟩)
     ·replace h11 := of_decide_eq_false h11
      refine csr <| mvl rfl <| bsl (α := UInt8) ([(239 : UInt8), (191 : UInt8), (189 : UInt8)]) uy93 ty5.sz rfl (by decide) z5 rfl fun b9 => ⟨trivial, ?_⟩
      refine app 0 o xs ([(239 : UInt8), (191 : UInt8), (189 : UInt8)] : List UInt8) ho rfl ⟨rfl, rfl, rfl⟩ rfl rfl (gives_own (ys := ([(239 : UInt8), (191 : UInt8), (189 : UInt8)] : List UInt8)) (pre := []) (post := []) 1 rfl (by simp) rfl) uy93 uy93 (.inl ⟨_, rfl⟩) ty5.sz by5 z5 rfl (by simp; omega) rfl fun o10_11 hk10_11 => ⟨trivial, ?_⟩
      refine agl rfl <| jt <| c_ret ?_
      exact j_end (own0 := [o.seg xs 5]) (ro0 := []) (.inl rfl) rfl (hr1 Tryz.results159 (rvt (v := (.slice _ _ _)) rfl)) [0] [1] [_] [_] [] _ rfl rfl (by kernel_rfl) rfl impl_nil (False.elim (by omega))
    ·replace h10 := of_decide_eq_false h10
     refine g_off rfl rfl rfl rfl <| g_off rfl rfl rfl rfl <| pkf (.bool _) rfl rfl <| agb rfl <| jt <| c_false rfl <| csr <| mvl rfl <| bsl (α := UInt8) ([(239 : UInt8), (191 : UInt8), (189 : UInt8)]) uy93 ty5.sz rfl (by decide) z5 rfl fun b9 => ⟨trivial, ?_⟩
     refine app 0 o xs ([(239 : UInt8), (191 : UInt8), (189 : UInt8)] : List UInt8) ho rfl ⟨rfl, rfl, rfl⟩ rfl rfl (gives_own (ys := ([(239 : UInt8), (191 : UInt8), (189 : UInt8)] : List UInt8)) (pre := []) (post := []) 1 rfl (by simp) rfl) uy93 uy93 (.inl ⟨_, rfl⟩) ty5.sz by5 z5 rfl (by simp; omega) rfl fun o10_12 hk10_12 => ⟨trivial, ?_⟩
     refine agl rfl <| jt <| c_ret ?_
     exact j_end (own0 := [o.seg xs 5]) (ro0 := []) (.inl rfl) rfl (hr1 Tryz.results159 (rvt (v := (.slice _ _ _)) rfl)) [0] [1] [_] [_] [] _ rfl rfl (by kernel_rfl) rfl impl_nil (False.elim (by omega))
end Go.Proofs.YtakbbpahfclgnaaGreatDoor
namespace Go.Proofs.YtakbbpahfclgnaaGreatDoor
open Go Go.Proofs Go.PW
open Go.PW.Enc (enc val)
theorem bWriteByte2_ct (b : Nat) (a : Option Addr) (ha : a = none ∨ a = (some ⟨b, 0, none⟩)) (o : Ow) (xs : Str) (ho : o.ok xs) (hb : xs.length ≤ 140737488355320) (c : UInt8) : Ct Tryz.prog 125 [.pointer (some ⟨b, 0, none⟩), .int .u8 (c.toNat : Int)] [[(b, .cells (cat [p1 (.pointer a), p1 (.slice o.adr xs.length o.cap)]) 193)], o.seg xs 5] [] (fun v w r => ∃ o' : Ow, o'.ok (xs ++ [c]) ∧ v = .nilIface ∧ w = [[(b, .cells (cat [p1 (.pointer (some ⟨b, 0, none⟩)), p1 (.slice o'.adr (xs ++ [c]).length o'.cap)]) 193)], o'.seg (xs ++ [c]) 5] ∧ r = []) := by
 refine ct_enter Tryz.func125 rfl Tryz.ntmps125 (by kernel_rfl) rfl fun w0 => ?_
 refine csr <| asg .nilIface rfl <| jsr <| mvp rfl <| cal (copyCheck_ct b _ ha _ _ _) [0] [1] [_] rfl rfl rfl (by kernel_rfl) impl_nil rfl ?_; rintro _ _ _ ⟨rfl, rfl, rfl⟩; refine ⟨trivial, ?_⟩
 refine jsr <| mvp rfl <| mvp rfl <| nlc rfl <| fad rfl uy193 rfl ty93.sz <| ldp 1 1 _ rfl rfl rfl rfl ty93 <| mvi rfl <| bsl (α := UInt8) ([c]) uy93 ty5.sz rfl (by decide) z5 rfl fun b13 => ⟨trivial, ?_⟩
 refine app 0 o xs ([c] : List UInt8) ho rfl ⟨rfl, rfl, rfl⟩ rfl rfl (gives_own (ys := ([c] : List UInt8)) (pre := []) (post := []) 2 rfl (by simp) rfl) uy93 uy93 (.inl ⟨_, rfl⟩) ty5.sz by5 z5 rfl (by simp; omega) rfl fun o14_1 hk14_1 => ⟨trivial, ?_⟩
 refine nlc rfl <| fad rfl uy193 rfl ty93.sz <| stp 1 1 _ (p1 (.slice o14_1.adr (xs ++ ([c] : List UInt8)).length o14_1.cap)) rfl rfl rfl rfl rfl rfl ty93 ⟨trivial, ?_⟩
 refine jsr <| asg .nilIface rfl <| jt <| c_ret ?_
 exact j_end (own0 := [[(b, .cells (cat [p1 (.pointer a), p1 (.slice o.adr xs.length o.cap)]) 193)], o.seg xs 5]) (ro0 := []) (.inl rfl) rfl (hr1 Tryz.results125 (rvt (v := .nilIface) rfl)) [1, 0] [2] [_, _] [_] [] _ rfl rfl (by kernel_rfl) rfl impl_nil (⟨o14_1, hk14_1, rfl, rfl, rfl⟩)
theorem AppendRune2_ct (o : Ow) (xs : Str) (ho : o.ok xs) (hb : xs.length ≤ 140737488355320) (c : Nat) (hv : vrune c = true) : Ct Tryz.prog 144 [.slice o.adr xs.length o.cap, .int .i32 (c : Int)] [o.seg xs 5] [] (fun v w r => ∃ o' : Ow, o'.ok (xs ++ enc8 c) ∧ v = .slice o'.adr (xs ++ enc8 c).length o'.cap ∧ w = [o'.seg (xs ++ enc8 c) 5] ∧ r = []) := by
 have HV := vrune_iff.1 hv
 have HU : (UInt32.ofNat c).toNat = c := by rw [UInt32.toNat_ofNat']; omega
 refine ct_enter Tryz.func144 rfl Tryz.ntmps144 (by kernel_rfl) rfl fun w0 => ?_
 refine csr <| agl rfl <| jt <| c_seq <| csr <| mvi rfl <| cvNU32 (n := c) rfl uy21 uy153 <| cmp _ rfl rfl rfl <| jt <| c_cond rfl (fun h1 => ?_) (fun h1 => ?_)
 ·replace h1 := of_decide_eq_true h1
  refine csr <| mvl rfl <| mvi rfl <| cvNU8 (n := c) rfl uy21 uy5 <| bsl (α := UInt8) ([(UInt8.ofNat c)]) uy93 ty5.sz rfl (by decide) z5 rfl fun b11 => ⟨trivial, ?_⟩
  refine app 0 o xs ([(UInt8.ofNat c)] : List UInt8) ho rfl ⟨rfl, rfl, rfl⟩ rfl rfl (gives_own (ys := ([(UInt8.ofNat c)] : List UInt8)) (pre := []) (post := []) 1 rfl (by simp) rfl) uy93 uy93 (.inl ⟨_, rfl⟩) ty5.sz by5 z5 rfl (by simp; omega) rfl fun o12_1 hk12_1 => ⟨trivial, ?_⟩
  refine agl rfl <| jt <| c_ret ?_
  exact j_end (own0 := [o.seg xs 5]) (ro0 := []) (.inl rfl) rfl (hr1 Tryz.results144 (rvt (v := (.slice _ _ _)) rfl)) [0] [1] [_] [_] [] _ rfl rfl (by kernel_rfl) rfl impl_nil (⟨o12_1, (by rw [enc8_1 (c := c) (by omega)]; exact hk12_1), by rw [enc8_1 (c := c) (by omega)], by rw [enc8_1 (c := c) (by omega)], rfl⟩)
 ·replace h1 := of_decide_eq_false h1
  refine c_skip <| e_then <| csr <| mvl rfl <| mvi rfl <| cal (appNA_ct o xs ho hb c (by omega) hv) [0] [] [] rfl rfl rfl (by kernel_rfl) impl_nil rfl ?_; rintro _ _ _ ⟨na15_2, hkna15_2, rfl, rfl, rfl⟩; refine ⟨trivial, ?_⟩
  refine agl rfl <| jt <| c_ret ?_
  exact j_end (own0 := [o.seg xs 5]) (ro0 := []) (.inl rfl) rfl (hr1 Tryz.results144 (rvt (v := (.slice _ _ _)) rfl)) [0] [] [_] [] [] _ rfl rfl (by kernel_rfl) rfl impl_nil (⟨na15_2, hkna15_2, rfl, rfl, rfl⟩)
theorem bWriteRune2_ct (b : Nat) (a : Option Addr) (ha : a = none ∨ a = (some ⟨b, 0, none⟩)) (o : Ow) (xs : Str) (ho : o.ok xs) (hb : xs.length ≤ 140737488355320) (c : Nat) (hv : vrune c = true) : Ct Tryz.prog 127 [.pointer (some ⟨b, 0, none⟩), .int .i32 (c : Int)] [[(b, .cells (cat [p1 (.pointer a), p1 (.slice o.adr xs.length o.cap)]) 193)], o.seg xs 5] [] (fun v w r => ∃ o' : Ow, o'.ok (xs ++ enc8 c) ∧ v = .tuple #[.int .i64 ((enc8 c).length : Int), .nilIface] ∧ w = [[(b, .cells (cat [p1 (.pointer (some ⟨b, 0, none⟩)), p1 (.slice o'.adr (xs ++ enc8 c).length o'.cap)]) 193)], o'.seg (xs ++ enc8 c) 5] ∧ r = []) := by
 refine ct_enter Tryz.func127 rfl Tryz.ntmps127 (by kernel_rfl) rfl fun w0 => ?_
 refine csr <| agi rfl <| asg .nilIface rfl <| jsr <| mvp rfl <| cal (copyCheck_ct b _ ha _ _ _) [0] [1] [_] rfl rfl rfl (by kernel_rfl) impl_nil rfl ?_; rintro _ _ _ ⟨rfl, rfl, rfl⟩; refine ⟨trivial, ?_⟩
 refine jsr <| mvp rfl <| nlc rfl <| fad rfl uy193 rfl ty93.sz <| ldp 1 1 _ rfl rfl rfl rfl ty93 <| lenS rfl uy93 <| agi rfl <| jsr <| mvp rfl <| mvp rfl <| nlc rfl <| fad rfl uy193 rfl ty93.sz <| ldp 1 1 _ rfl rfl rfl rfl ty93 <| mvi rfl <| cal (AppendRune2_ct o xs ho hb c hv) [0] [1] [_] rfl rfl rfl (by kernel_rfl) impl_nil rfl ?_; rintro _ _ _ ⟨ar20_1, hkar20_1, rfl, rfl, rfl⟩; refine ⟨trivial, ?_⟩
 refine nlc rfl <| fad rfl uy193 rfl ty93.sz <| stp 0 1 _ (p1 (.slice ar20_1.adr (xs ++ enc8 c).length ar20_1.cap)) rfl rfl rfl rfl rfl rfl ty93 ⟨trivial, ?_⟩
 refine jsr <| mvp rfl <| nlc rfl <| fad rfl uy193 rfl ty93.sz <| ldp 0 1 _ rfl rfl rfl rfl ty93 <| lenS rfl uy93 <| mvi rfl <| ari ((enc8 c).length : Int) rfl rfl (congrArg some (by rw [show (((xs ++ enc8 c).length : Int) - (xs.length : Int)) = ((enc8 c).length : Int) by rw [List.length_append]; omega]; exact wI64 (by have := enc8_len c; omega))) <| agi rfl <| asg .nilIface rfl <| jt <| c_ret ?_
 exact j_end (own0 := [[(b, .cells (cat [p1 (.pointer a), p1 (.slice o.adr xs.length o.cap)]) 193)], o.seg xs 5]) (ro0 := []) (.inl rfl) rfl (hr2 Tryz.results127 (rvt (v := (.int _ _)) rfl) (rvt (v := .nilIface) rfl)) [0, 1] [] [_, _] [] [] _ rfl rfl (by kernel_rfl) rfl impl_nil (⟨ar20_1, hkar20_1, rfl, rfl, rfl⟩)
theorem bString2_ct (b : Nat) (a : Option Addr) (ha : a = none ∨ a = (some ⟨b, 0, none⟩)) (o : Ow) (xs : Str) (ho : o.ok xs) (hb : xs.length ≤ 140737488355320) (hp : 0 < xs.length ∨ o.nl = true) : Ct Tryz.prog 128 [.pointer (some ⟨b, 0, none⟩)] [[(b, .cells (cat [p1 (.pointer a), p1 (.slice o.adr xs.length o.cap)]) 193)], o.seg xs 5] [] (fun v o r => v = strV xs ∧ o = [] ∧ r = []) := by
 refine ct_enter Tryz.func128 rfl Tryz.ntmps128 (by kernel_rfl) rfl fun w0 => ?_
 refine csr <| ags rfl <| jt <| c_seq <| c_dr [_] [] [(0, 0), (1, 0), (2, 0), (3, 0), (4, 0), (5, 0), (6, 0), (7, 0), (8, 0), (9, 0), (10, 1), (11, 0)] follows (by kernel_rfl) calm_body (keepS [0] rfl) <| mvp rfl <| nlc rfl <| fad rfl uy193 rfl ty93.sz <| ldp 0 1 _ rfl rfl rfl rfl ty93 <| usd rfl (ow_cap2 ho hp) <| mvp rfl <| nlc rfl <| fad rfl uy193 rfl ty93.sz <| ldp 0 1 _ rfl rfl rfl rfl ty93 <| lenS rfl uy93 <| ust 1 ho rfl rfl rfl rfl rfl uy211 (by kernel_rfl) (by omega) ⟨keepI [0] rfl, ?_⟩
 refine ags rfl <| jt <| c_ret ?_
 exact j_d (own0 := [[(b, .cells (cat [p1 (.pointer a), p1 (.slice o.adr xs.length o.cap)]) 193)], o.seg xs 5]) (ro0 := []) (.inl rfl) rfl (hr1 Tryz.results128 (rvt (v := (.string _)) rfl)) [0, 1] [_, _] rfl (by kernel_rfl) rfl (⟨rfl, rfl, rfl⟩)
end Go.Proofs.YtakbbpahfclgnaaGreatDoor
namespace Go.PW
open Go
theorem notF {b : Bool} (h : (!b) = false) : b = true := by simpa using h
theorem notT {b : Bool} (h : (!b) = true) : b = false := by simpa using h
theorem idx_pos {r : Str} (h : List.getD r 0 0 = 123) (h2 : idxN r 125 < r.length) : 1 ≤ idxN r 125 := by
  rcases Nat.eq_zero_or_pos (idxN r 125) with h0 | h0
  · have := (idxN_spec r 125).2 h2; rw [h0, h] at this; exact absurd this (by decide)
  · exact h0
theorem coded_np {r : Str} (h : pfx r [123] = false) : coded r = none := coded_none1 fun h2 => by
  have := pfx_one.2 ⟨show 0 < r.length by omega, h2.2⟩
  rw [this] at h; cases h
theorem coded_ni {r : Str} (h : idxB r 125 < 0) : coded r = none := coded_none1 fun h2 => by
  unfold idxB at h; rw [if_pos h2.1] at h; omega
theorem coded_why {r : Str} {n : Int} {x : Str} (hz : (∀ m : Nat, m < 2147483648 → (r.drop 1).take (idxN r 125 - 1) = fmtN 16 m → n = (m : Int)))
    (h : (0 ≤ n → x = fmtN 16 n.toNat) ∧ x ≠ (r.drop 1).take (idxN r 125 - 1) ∨ vruneZ n = false ∨ (32 ≤ n ∧ n ≤ 126)) : coded r = none := coded_none2 fun k hk hc => by
  have e := pnum_some hk
  have hv := vrune_iff.1 hc.1
  have hn := hz k (by omega) e
  subst hn
  rcases h with ⟨h1, h2⟩ | h | h
  · have := h1 (by omega)
    rw [Int.toNat_natCast] at this
    exact h2 (this.trans e.symm)
  · rw [vruneZ_nat, hc.1] at h; cases h
  · omega
theorem coded_err {r : Str} (hz : (∀ m : Nat, m < 2147483648 → (r.drop 1).take (idxN r 125 - 1) ≠ fmtN 16 m)) : coded r = none := coded_none2 fun k hk hc => by
  have e := pnum_some hk
  have hv := vrune_iff.1 hc.1
  exact hz k (by omega) e
structure UQ (t : Str) (i : Nat) (xs : Str) : Prop where
  le : i ≤ t.length
  eq : unq t = (unq (t.drop i)).map (xs ++ ·)
  len : xs.length ≤ i
theorem UQ.start (t : Str) : UQ t 0 [] := ⟨by omega, by simp, by simp⟩
theorem UQ.fin {t : Str} {i : Nat} {xs : Str} (h : UQ t i xs) (hi : ¬ i < t.length) : unq t = some xs := by
  rw [h.eq, unq_nil (by simp; have := h.le; omega)]; simp
theorem UQ.bad {t : Str} {i : Nat} {xs : Str} (h : UQ t i xs) (hi : i < t.length) (hb : (List.getD t i 0).toNat < 32 ∨ 126 < (List.getD t i 0).toNat ∨ List.getD t i 0 = 34) : unq t = none := by
  rw [h.eq, unq_bad (by simp; omega) (by rw [getD_drop, Nat.add_zero]; exact hb)]; rfl
theorem map_map_app {a b : Str} {x : Option Str} : (x.map (b ++ ·)).map (a ++ ·) = x.map ((a ++ b) ++ ·) := by
  cases x <;> simp
theorem UQ.one {t : Str} {i : Nat} {xs : Str} (h : UQ t i xs) (hi : i < t.length) (hb : ¬((List.getD t i 0).toNat < 32 ∨ 126 < (List.getD t i 0).toNat ∨ List.getD t i 0 = 34)) (h2 : List.getD t i 0 ≠ 92) : UQ t (i + 1) (xs ++ [List.getD t i 0]) := by
  refine ⟨hi, ?_, by have := h.len; simp; omega⟩
  rw [h.eq, unq_one (by simp; omega) (by rw [getD_drop, Nat.add_zero]; exact hb) (by rw [getD_drop, Nat.add_zero]; exact h2), getD_drop, Nat.add_zero, map_map_app, List.drop_drop]
theorem UQ.two {t : Str} {i : Nat} {xs : Str} (h : UQ t i xs) (hi : i + 1 < t.length) (h1 : List.getD t i 0 = 92) (h2 : List.getD t (i + 1) 0 = 34 ∨ List.getD t (i + 1) 0 = 92) : UQ t (i + 1 + 1) (xs ++ [List.getD t (i + 1) 0]) := by
  refine ⟨hi, ?_, by have := h.len; simp; omega⟩
  rw [h.eq, unq_two (by simp; omega) (by rw [getD_drop, Nat.add_zero]; exact h1) (by rw [getD_drop]; exact h2), getD_drop, map_map_app, List.drop_drop]
theorem UQ.no {t : Str} {i : Nat} {xs : Str} (h : UQ t i xs) (hi : i < t.length) (h1 : List.getD t i 0 = 92) (h2 : i + 1 < t.length → List.getD t (i + 1) 0 ≠ 34 ∧ List.getD t (i + 1) 0 ≠ 92 ∧ List.getD t (i + 1) 0 ≠ 117) : unq t = none := by
  rw [h.eq, unq_no (by simp; omega) (by rw [getD_drop, Nat.add_zero]; exact h1) (fun hh => by
    have hl : i + 1 < t.length := by have := hh.1; simp at this; omega
    have := h2 hl; rw [getD_drop] at hh; rcases hh.2 with e | e
    · exact this.1 e
    · exact this.2.1 e) (fun hh => by
    have hl : i + 1 < t.length := by have := hh.1; simp at this; omega
    rw [getD_drop] at hh; exact (h2 hl).2.2 hh.2)]; rfl
theorem UQ.code {t : Str} {i c m : Nat} {xs : Str} (h : UQ t i xs) (hi : i + 1 < t.length) (h1 : List.getD t i 0 = 92) (h2 : List.getD t (i + 1) 0 = 117) (hc : coded (t.drop (i + 1 + 1)) = some (c, m)) : UQ t (i + 1 + m + 1) (xs ++ enc8 c) ∧ vrune c = true ∧ i + 1 + m + 1 ≤ t.length ∧ (enc8 c).length ≤ m := by
  have hs := coded_some hc
  have hlen := hs.2.2.2.1
  have hf := (fmtN_length 16 c).1
  have he := enc8_len c
  rw [List.length_drop] at hlen
  have hle3 : (enc8 c).length ≤ m + 1 := by omega
  have hm : (enc8 c).length ≤ m := by
    have h3 : 3 ≤ m := by omega
    rcases Nat.lt_or_ge (enc8 c).length 4 with h4 | h4
    · omega
    · -- four bytes: at least five digits
      have hc4 : 65536 ≤ c := Nat.le_of_not_lt fun hlt => by
        unfold enc8 at h4
        by_cases a1 : c < 128
        · rw [if_pos a1] at h4; simp at h4
        · rw [if_neg a1] at h4
          by_cases a2 : c < 2048
          · rw [if_pos a2] at h4; simp at h4
          · rw [if_neg a2, if_pos hlt] at h4; simp at h4
      have hv := vrune_iff.1 hs.1
      have hp := fmtN_lt (b := 16) (n := c) (by omega) (u64_pow (by omega) (by omega))
      rcases Nat.lt_or_ge (fmtN 16 c).length 2 with h5 | h5
      · have : (fmtN 16 c).length = 1 := by omega
        rw [this] at hp; omega
      · omega
  refine ⟨⟨by omega, ?_, by have := h.len; simp; omega⟩, hs.1, by omega, hm⟩
  have hdd : (t.drop i).drop 2 = t.drop (i + 1 + 1) := by rw [List.drop_drop]
  rw [h.eq, unq_u (by simp; omega) (by rw [getD_drop, Nat.add_zero]; exact h1) (by rw [getD_drop]; exact h2), hdd, hc]
  simp only
  rw [map_map_app, List.drop_drop, show i + (2 + m) = i + 1 + m + 1 by omega]
theorem UQ.uncode {t : Str} {i : Nat} {xs : Str} (h : UQ t i xs) (hi : i + 1 < t.length) (h1 : List.getD t i 0 = 92) (h2 : List.getD t (i + 1) 0 = 117) (hc : coded (t.drop (i + 1 + 1)) = none) : unq t = none := by
  have hdd : (t.drop i).drop 2 = t.drop (i + 1 + 1) := by rw [List.drop_drop]
  rw [h.eq, unq_u (by simp; omega) (by rw [getD_drop, Nat.add_zero]; exact h1) (by rw [getD_drop]; exact h2), hdd, hc]; rfl
end Go.PW
namespace Go.Proofs.YtakbbpahfclgnaaGreatDoor
open Go Go.Proofs Go.PW
open Go.PW.Enc (enc val)
theorem z193 : Zt Tryz.prog 193 (.agg ⟨cat [p1 (.pointer none), p1 (.slice none 0 0)]⟩) := by unfold Zt; kernel_rfl
theorem coded_ct (r : Str) (hr : r.length ≤ 140737488351232) (eu : TypeId) (ev : Value) (ru : TypeId) (rv : Value) : Ct Tryz.prog 126 [strV r] [] [tDb64 11, tIf 7 eu ev, tIf 8 ru rv] (fun v o w => ∃ (c n : Int) (b : Bool), (b = true → ∃ k m : Nat, c = (k : Int) ∧ n = (m : Int) ∧ coded r = some (k, m)) ∧ (b = false → coded r = none) ∧ v = .tuple #[.int .i32 c, .int .i64 n, .bool b] ∧ o = [] ∧ w = []) := by
 refine ct_enter Tryz.func126 rfl Tryz.ntmps126 (by kernel_rfl) rfl fun w0 => ?_
 refine csr <| agi rfl <| agi rfl <| agb rfl <| jsr <| mvs rfl <| cal (sIndexByte_ct r (125 : UInt8)) [] [] [] rfl rfl rfl (by kernel_rfl) impl_nil rfl ?_; rintro _ _ _ ⟨rfl, rfl, rfl⟩; refine ⟨trivial, ?_⟩
 refine agi rfl <| jt <| c_seq <| csr <| mvs rfl <| cal (sHasPrefix_ct r ([123] : Str) (by omega) (by decide)) [] [] [] rfl rfl rfl (by kernel_rfl) impl_nil rfl ?_; rintro _ _ _ ⟨rfl, rfl, rfl⟩; refine ⟨trivial, ?_⟩
 refine not_ rfl <| mvb rfl <| jsplit 15 rfl (fun h1 => ?_) (fun h1 => ?_)
 ·refine g_off rfl rfl rfl rfl <| g_off rfl rfl rfl rfl <| pkt (.bool _) rfl rfl <| jt <| c_true rfl <| csr <| agi rfl <| agi rfl <| agb rfl <| jt <| c_ret ?_
  exact j_z (own0 := []) (ro0 := [tDb64 11, tIf 7 eu ev, tIf 8 ru rv]) (.inl rfl) rfl (hr3 Tryz.results126 (rvt (v := (.int _ _)) rfl) (rvt (v := (.int _ _)) rfl) (rvt (v := (.bool _)) rfl)) rfl (⟨0, 0, false, (fun h => by cases h), fun _ => (by first | exact coded_np (notT (by assumption)) | exact coded_ni (by omega)), rfl, rfl, rfl⟩)
 ·refine g_on rfl rfl rfl <| mvi rfl <| g_on rfl rfl rfl <| cmp _ rfl rfl rfl <| pkf (.bool _) rfl rfl <| jt <| c_cond rfl (fun h2 => ?_) (fun h2 => ?_)
  ·replace h2 := of_decide_eq_true h2
   refine csr <| agi rfl <| agi rfl <| agb rfl <| jt <| c_ret ?_
   exact j_z (own0 := []) (ro0 := [tDb64 11, tIf 7 eu ev, tIf 8 ru rv]) (.inl rfl) rfl (hr3 Tryz.results126 (rvt (v := (.int _ _)) rfl) (rvt (v := (.int _ _)) rfl) (rvt (v := (.bool _)) rfl)) rfl (⟨0, 0, false, (fun h => by cases h), fun _ => (by first | exact coded_np (notT (by assumption)) | exact coded_ni (by omega)), rfl, rfl, rfl⟩)
  ·replace h2 := of_decide_eq_false h2
   refine c_skip <| e_then <| c_seq ?_
   have HI := idxB_at (c := 125) (s := r) (by omega)
   have HJ := idxB_lt (c := 125) (s := r) (by omega)
   have HP := pfx_one.1 (notF (by assumption))
   have HG := idx_pos HP.2 HJ
   refine c_reg <| mvs rfl <| mvi rfl <| cutT (s := r) 1 (idxN r 125) rfl uy9 ⟨_, rfl⟩ ⟨_, congrArg (Value.int _) (by omega)⟩ (by omega) (by omega) (List.take ((idxN r 125) - 1) (List.drop 1 r)) rfl <| cal (sParseInt_ct (List.take ((idxN r 125) - 1) (List.drop 1 r)) (by rw [List.length_take, List.length_drop]; omega) eu ev ru rv) [] [] [] rfl rfl rfl (by kernel_rfl) (impl_cons (impl_at 1 rfl) (impl_cons (impl_at 2 rfl) impl_nil)) rfl ?_; rintro _ _ _ (⟨zn1, hzr1, hz1, rfl, rfl, rfl⟩ | ⟨hz1, zn1, zu1, zx1, rfl, rfl, rfl⟩)
   ·refine ⟨trivial, ?_⟩
    refine mv (.tuple _) rfl <| xtr (.int _ _) rfl rfl <| xtr .nilIface rfl rfl <| agi rfl <| asg .nilIface rfl <| jsr <| mvi rfl <| cvI zn1 rfl uy2 uy21 (i32w ⟨by omega, by omega⟩) <| agi rfl <| jt <| c_seq <| c_dr [_, _, _] [] [(0, 0), (1, 0), (2, 0), (3, 0), (5, 0), (6, 0), (7, 0), (4, 1), (8, 0), (9, 0), (10, 0), (11, 0), (12, 1), (13, 0), (14, 0), (15, 0), (16, 0), (17, 0), (18, 0), (19, 0), (20, 0), (21, 0), (22, 0)] follows (by kernel_rfl) calm_body (keepS [0, 1, 2] rfl) <| mv .nilIface rfl <| eqnn true rfl uy24 rfl <| mvb rfl <| g_on rfl rfl rfl <| mvi rfl <| g_on rfl rfl rfl <| mvs rfl <| g_on rfl rfl rfl <| mvi rfl <| g_on rfl rfl rfl <| cutT (s := r) 1 (idxN r 125) rfl uy9 ⟨_, rfl⟩ ⟨_, congrArg (Value.int _) (by omega)⟩ (by omega) (by omega) (List.take ((idxN r 125) - 1) (List.drop 1 r)) rfl <| g_on rfl rfl rfl <| cal (sFormatIntZ_ct zn1 (by omega) (by omega)) [] [] [] rfl rfl rfl (by kernel_rfl) (impl_cons (impl_at 0 rfl) impl_nil) rfl ?_; rintro _ _ _ ⟨fz2, hfz2, rfl, rfl, rfl⟩; refine ⟨keepI [0, 1, 2] rfl, ?_⟩
    refine g_on rfl rfl rfl <| scmp (a := fz2) (b := (List.take ((idxN r 125) - 1) (List.drop 1 r))) _ rfl rfl uy9 rfl <| pkt (.bool _) rfl rfl <| mvb rfl <| jsplit 38 rfl (fun h3 => ?_) (fun h3 => ?_)
    ·replace h3 := of_decide_eq_true h3
     refine g_on rfl rfl rfl <| mvi rfl <| g_on rfl rfl rfl <| cal (ValidRune_ct zn1) [] [] [] rfl rfl rfl (by kernel_rfl) impl_nil rfl ?_; rintro _ _ _ ⟨rfl, rfl, rfl⟩; refine ⟨keepI [0, 1, 2] rfl, ?_⟩
     refine pkt (.bool _) rfl rfl <| mvb rfl <| jsplit 42 rfl (fun h4 => ?_) (fun h4 => ?_)
     ·refine g_on rfl rfl rfl <| mvi rfl <| g_on rfl rfl rfl <| cmp _ rfl rfl rfl <| g_on rfl rfl rfl <| mvb rfl <| jsplit 45 rfl (fun h5 => ?_) (fun h5 => ?_)
      ·replace h5 := of_decide_eq_true h5
       refine g_off rfl rfl rfl rfl <| g_off rfl rfl rfl rfl <| g_on rfl rfl rfl <| pkt (.bool _) rfl rfl <| pkt (.bool _) rfl rfl <| agb rfl <| jsr <| mvi rfl <| mvi rfl <| addi rfl rfl rfl (by omega) <| mvb rfl <| agi rfl <| agi rfl <| agb rfl <| jt <| c_ret ?_
       exact j_z (own0 := []) (ro0 := [tDb64 11, tIf 7 eu ev, tIf 8 ru rv]) (.inl rfl) rfl (hr3 Tryz.results126 (rvt (v := (.int _ _)) rfl) (rvt (v := (.int _ _)) rfl) (rvt (v := (.bool _)) rfl)) rfl (⟨zn1, ((idxB r (125 : UInt8)) + 1), true, (fun h => by obtain ⟨c, m, e1, e2, e3⟩ := coded_yes (k := idxN r 125 + 1) HJ HP.2 hfz2 (by assumption) (by assumption) (by omega) rfl; exact ⟨c, m, e1, by rw [HI]; exact e2, e3⟩), (fun h => by cases h), rfl, rfl, rfl⟩)
      ·replace h5 := of_decide_eq_false h5
       refine g_on rfl rfl rfl <| mvi rfl <| g_on rfl rfl rfl <| cmp _ rfl rfl rfl <| g_on rfl rfl rfl <| pkf (.bool _) rfl rfl <| pkt (.bool _) rfl rfl <| agb rfl <| jsr <| mvi rfl <| mvi rfl <| addi rfl rfl rfl (by omega) <| mvb rfl <| agi rfl <| agi rfl <| agb rfl <| jt <| c_ret ?_
       exact j_z (own0 := []) (ro0 := [tDb64 11, tIf 7 eu ev, tIf 8 ru rv]) (.inl rfl) rfl (hr3 Tryz.results126 (rvt (v := (.int _ _)) rfl) (rvt (v := (.int _ _)) rfl) (rvt (v := (.bool _)) rfl)) rfl (⟨zn1, ((idxB r (125 : UInt8)) + 1), (decide (126 < zn1)), (fun h => by obtain ⟨c, m, e1, e2, e3⟩ := coded_yes (k := idxN r 125 + 1) HJ HP.2 hfz2 (by assumption) (by assumption) (.inr (of_decide_eq_true h)) rfl; exact ⟨c, m, e1, by rw [HI]; exact e2, e3⟩), (fun h => (by first | exact coded_err hz1 | exact coded_why hz1 (.inl ⟨hfz2, by assumption⟩) | exact coded_why (x := []) hz1 (.inr (.inl (by assumption))) | exact coded_why (x := []) hz1 (.inr (.inr ⟨by omega, by first | omega | (have := of_decide_eq_false h; omega)⟩)))), rfl, rfl, rfl⟩)
     ·refine g_off rfl rfl rfl rfl <| g_off rfl rfl rfl rfl <| g_off rfl rfl rfl rfl <| g_und rfl rfl rfl <| g_und rfl rfl rfl <| g_off rfl rfl rfl rfl <| pkf (.bool _) rfl rfl <| agb rfl <| jsr <| mvi rfl <| mvi rfl <| addi rfl rfl rfl (by omega) <| mvb rfl <| agi rfl <| agi rfl <| agb rfl <| jt <| c_ret ?_
      exact j_z (own0 := []) (ro0 := [tDb64 11, tIf 7 eu ev, tIf 8 ru rv]) (.inl rfl) rfl (hr3 Tryz.results126 (rvt (v := (.int _ _)) rfl) (rvt (v := (.int _ _)) rfl) (rvt (v := (.bool _)) rfl)) rfl (⟨zn1, ((idxB r (125 : UInt8)) + 1), false, (fun h => by cases h), (fun h => (by first | exact coded_err hz1 | exact coded_why hz1 (.inl ⟨hfz2, by assumption⟩) | exact coded_why (x := []) hz1 (.inr (.inl (by assumption))) | exact coded_why (x := []) hz1 (.inr (.inr ⟨by omega, by first | omega | (have := of_decide_eq_false h; omega)⟩)))), rfl, rfl, rfl⟩)
    ·replace h3 := of_decide_eq_false h3
     refine g_off rfl rfl rfl rfl <| g_off rfl rfl rfl rfl <| pkf (.bool _) rfl rfl <| mvb rfl <| g_off rfl rfl rfl rfl <| g_off rfl rfl rfl rfl <| g_off rfl rfl rfl rfl <| g_und rfl rfl rfl <| g_und rfl rfl rfl <| g_off rfl rfl rfl rfl <| pkf (.bool _) rfl rfl <| agb rfl <| jsr <| mvi rfl <| mvi rfl <| addi rfl rfl rfl (by omega) <| mvb rfl <| agi rfl <| agi rfl <| agb rfl <| jt <| c_ret ?_
     exact j_z (own0 := []) (ro0 := [tDb64 11, tIf 7 eu ev, tIf 8 ru rv]) (.inl rfl) rfl (hr3 Tryz.results126 (rvt (v := (.int _ _)) rfl) (rvt (v := (.int _ _)) rfl) (rvt (v := (.bool _)) rfl)) rfl (⟨zn1, ((idxB r (125 : UInt8)) + 1), false, (fun h => by cases h), (fun h => (by first | exact coded_err hz1 | exact coded_why hz1 (.inl ⟨hfz2, by assumption⟩) | exact coded_why (x := []) hz1 (.inr (.inl (by assumption))) | exact coded_why (x := []) hz1 (.inr (.inr ⟨by omega, by first | omega | (have := of_decide_eq_false h; omega)⟩)))), rfl, rfl, rfl⟩)
   ·refine ⟨trivial, ?_⟩
    refine mv (.tuple _) rfl <| xtr (.int _ _) rfl rfl <| xtr (.iface _ _) rfl rfl <| agi rfl <| asg (.iface _ _) rfl <| jsr <| mvi rfl <| cvI (IntKind.i32.wrap zn1) rfl uy2 uy21 rfl <| agi rfl <| jt <| c_seq <| c_dr [_, _, _] [] [(0, 0), (1, 0), (2, 0), (3, 0), (5, 0), (6, 0), (7, 0), (4, 1), (8, 0), (9, 0), (10, 0), (11, 0), (12, 1), (13, 0), (14, 0), (15, 0), (16, 0), (17, 0), (18, 0), (19, 0), (20, 0), (21, 0), (22, 0)] follows (by kernel_rfl) calm_body (keepS [0, 1, 2] rfl) <| mv (.iface _ _) rfl <| eqin false rfl rfl uy24 rfl <| mvb rfl <| g_off rfl rfl rfl rfl <| g_off rfl rfl rfl rfl <| g_off rfl rfl rfl rfl <| g_off rfl rfl rfl rfl <| g_off rfl rfl rfl rfl <| g_off rfl rfl rfl rfl <| pkf (.bool _) rfl rfl <| mvb rfl <| g_off rfl rfl rfl rfl <| g_off rfl rfl rfl rfl <| pkf (.bool _) rfl rfl <| mvb rfl <| g_off rfl rfl rfl rfl <| g_off rfl rfl rfl rfl <| g_off rfl rfl rfl rfl <| g_und rfl rfl rfl <| g_und rfl rfl rfl <| g_off rfl rfl rfl rfl <| pkf (.bool _) rfl rfl <| agb rfl <| jt <| c_seq <| c_reg ?_
    refine mvi rfl <| mvi rfl <| addi rfl rfl rfl (by omega) <| mvb rfl <| agi rfl <| agi rfl <| agb rfl <| jt <| c_ret ?_
    exact j_z (own0 := []) (ro0 := [tDb64 11, tIf 7 eu ev, tIf 8 ru rv]) (.inl rfl) rfl (hr3 Tryz.results126 (rvt (v := (.int _ _)) rfl) (rvt (v := (.int _ _)) rfl) (rvt (v := (.bool _)) rfl)) rfl (⟨(IntKind.i32.wrap zn1), ((idxB r (125 : UInt8)) + 1), false, (fun h => by cases h), (fun h => (by first | exact coded_err hz1 | exact coded_why hz1 (.inl ⟨hz1, by assumption⟩) | exact coded_why (x := []) hz1 (.inr (.inl (by assumption))) | exact coded_why (x := []) hz1 (.inr (.inr ⟨by omega, by first | omega | (have := of_decide_eq_false h; omega)⟩)))), rfl, rfl, rfl⟩)
theorem plain_ct (t : Str) (ht : t.length ≤ 140737488351232) (eu : TypeId) (ev : Value) (ru : TypeId) (rv : Value) : Ct Tryz.prog 104 [strV t] [] [tDb64 11, tIf 7 eu ev, tIf 8 ru rv] (fun v o w => ∃ (x : Str) (b : Bool), (b = true → unq t = some x) ∧ (b = false → unq t = none) ∧ x.length ≤ t.length ∧ v = .tuple #[strV x, .bool b] ∧ o = [] ∧ w = []) := by
 refine ct_enter Tryz.func104 rfl Tryz.ntmps104 (by kernel_rfl) rfl fun w0 => ?_
 refine csr <| ags rfl <| agb rfl <| jsr <| alo [p1 (.pointer none), p1 (.slice Ow.nil.adr ([] : List UInt8).length Ow.nil.cap)] _ z193 rfl fun b4 => ⟨trivial, ?_⟩; refine j_addE ?_
 refine jt <| c_seq <| csr <| agi rfl <| jt <| c_block <| c_loop (σ := Nat × Option Addr × Ow × Str) (fun (i, a, o, xs) => (a = none ∨ a = (some ⟨b4, 0, none⟩)) ∧ o.ok xs ∧ UQ t i xs ∧ (0 < xs.length ∨ o.nl = true)) (fun (i, a, o, xs) => t.length - i) (fun (i, a, o, xs) => [(5, .int .i64 (i : Int))]) (fun (i, a, o, xs) => [[(b4, .cells (cat [p1 (.pointer a), p1 (.slice o.adr xs.length o.cap)]) 193)], o.seg xs 5]) (fun (i, a, o, xs) => [tDb64 11, tIf 7 eu ev, tIf 8 ru rv]) [2, 3, 5, 6, 7, 8, 9, 10, 11, 12, 13, 14, 15, 16, 17, 18, 19, 20, 21, 22, 23, 24, 25, 26, 27, 28, 29, 30, 31, 32, 33, 34, 35, 36, 37, 38, 39, 40, 41, 42, 43, 44, 45, 46, 47, 48, 49, 50, 51, 52, 53, 54, 55, 56, 57, 58, 59, 60, 61, 62, 63, 64, 65, 66, 67, 68, 69, 70, 71, 72, 73, 74, 75, 76, 77, 78, 79, 80, 81, 82, 83, 84, 85, 86, 87, 88, 89, 90] (0, none, Ow.nil, []) (⟨.inl rfl, Ow.nil_ok, UQ.start t, .inr rfl⟩) ⟨rfl, trivial⟩ rfl rfl ?_
 rintro ⟨i, a, o, xs⟩ g1 hI1
 try dsimp only at hI1 ⊢
 have ha := hI1.1
 have HU := hI1.2.2.1
 have HUL := HU.len
 have HUE := HU.le
 have HBZ := hI1.2.2.2
 refine c_seq <| csr <| mvi rfl <| mvs rfl <| lenT (s := t) rfl uy9 <| cmp _ rfl rfl rfl <| jt <| c_cond rfl (fun h1 => ?_) (fun h1 => ?_)
 ·replace h1 := of_decide_eq_true h1
  refine c_skip <| e_then <| c_seq <| c_block <| c_seq <| c_block <| csr <| mvs rfl <| mvi rfl <| idxT (s := t) i rfl rfl uy9 rfl (by first | omega | (simp; done) | (simp; omega) | (simp at *; omega)) <| cmp _ rfl rfl rfl <| mvb rfl <| jsplit 20 rfl (fun h2 => ?_) (fun h2 => ?_)
  ·replace h2 := of_decide_eq_true h2
   refine g_off rfl rfl rfl rfl <| g_off rfl rfl rfl rfl <| g_off rfl rfl rfl rfl <| g_off rfl rfl rfl rfl <| pkt (.bool _) rfl rfl <| mvb rfl <| g_off rfl rfl rfl rfl <| g_off rfl rfl rfl rfl <| g_off rfl rfl rfl rfl <| g_off rfl rfl rfl rfl <| pkt (.bool _) rfl rfl <| agb rfl <| jt <| c_true rfl <| csr <| ags rfl <| agb rfl <| jt <| c_ret ?_
   exact j_d (own0 := []) (ro0 := [tDb64 11, tIf 7 eu ev, tIf 8 ru rv]) (.inl rfl) rfl (hr2 Tryz.results104 (rvt (v := (.string _)) rfl) (rvt (v := (.bool _)) rfl)) [0, 1] [_, _] rfl (by kernel_rfl) rfl (⟨[], false, fun h => (by cases h), fun _ => (by first | exact UQ.bad HU (by omega) (.inl (by omega)) | exact UQ.bad HU (by omega) (.inr (.inl (by omega))) | exact UQ.bad HU (by omega) (.inr (.inr (by assumption))) | exact UQ.no HU (by omega) (by assumption) (fun hl => ⟨by first | assumption | (exfalso; omega), by first | assumption | (exfalso; omega), by first | assumption | (exfalso; omega)⟩)), by simp, rfl, rfl, rfl⟩)
  ·replace h2 := of_decide_eq_false h2
   refine g_on rfl rfl rfl <| mvs rfl <| g_on rfl rfl rfl <| mvi rfl <| g_on rfl rfl rfl <| idxT (s := t) i rfl rfl uy9 rfl (by first | omega | (simp; done) | (simp; omega) | (simp at *; omega)) <| g_on rfl rfl rfl <| cmp _ rfl rfl rfl <| pkf (.bool _) rfl rfl <| mvb rfl <| jsplit 26 rfl (fun h3 => ?_) (fun h3 => ?_)
   ·replace h3 := of_decide_eq_true h3
    refine g_off rfl rfl rfl rfl <| g_off rfl rfl rfl rfl <| g_off rfl rfl rfl rfl <| g_off rfl rfl rfl rfl <| pkt (.bool _) rfl rfl <| agb rfl <| jt <| c_true rfl <| csr <| ags rfl <| agb rfl <| jt <| c_ret ?_
    exact j_d (own0 := []) (ro0 := [tDb64 11, tIf 7 eu ev, tIf 8 ru rv]) (.inl rfl) rfl (hr2 Tryz.results104 (rvt (v := (.string _)) rfl) (rvt (v := (.bool _)) rfl)) [0, 1] [_, _] rfl (by kernel_rfl) rfl (⟨[], false, fun h => (by cases h), fun _ => (by first | exact UQ.bad HU (by omega) (.inl (by omega)) | exact UQ.bad HU (by omega) (.inr (.inl (by omega))) | exact UQ.bad HU (by omega) (.inr (.inr (by assumption))) | exact UQ.no HU (by omega) (by assumption) (fun hl => ⟨by first | assumption | (exfalso; omega), by first | assumption | (exfalso; omega), by first | assumption | (exfalso; omega)⟩)), by simp, rfl, rfl, rfl⟩)
   ·replace h3 := of_decide_eq_false h3
    refine g_on rfl rfl rfl <| mvs rfl <| g_on rfl rfl rfl <| mvi rfl <| g_on rfl rfl rfl <| idxT (s := t) i rfl rfl uy9 rfl (by first | omega | (simp; done) | (simp; omega) | (simp at *; omega)) <| g_on rfl rfl rfl <| equ8 (a := (List.getD t i 0)) (b := (34 : UInt8)) _ rfl rfl rfl <| pkf (.bool _) rfl rfl <| agb rfl <| jt <| c_cond rfl (fun h4 => ?_) (fun h4 => ?_)
    ·replace h4 := of_decide_eq_true h4
     refine csr <| ags rfl <| agb rfl <| jt <| c_ret ?_
     exact j_d (own0 := []) (ro0 := [tDb64 11, tIf 7 eu ev, tIf 8 ru rv]) (.inl rfl) rfl (hr2 Tryz.results104 (rvt (v := (.string _)) rfl) (rvt (v := (.bool _)) rfl)) [0, 1] [_, _] rfl (by kernel_rfl) rfl (⟨[], false, fun h => (by cases h), fun _ => (by first | exact UQ.bad HU (by omega) (.inl (by omega)) | exact UQ.bad HU (by omega) (.inr (.inl (by omega))) | exact UQ.bad HU (by omega) (.inr (.inr (by assumption))) | exact UQ.no HU (by omega) (by assumption) (fun hl => ⟨by first | assumption | (exfalso; omega), by first | assumption | (exfalso; omega), by first | assumption | (exfalso; omega)⟩)), by simp, rfl, rfl, rfl⟩)
    ·replace h4 := of_decide_eq_false h4
     refine csr <| mvs rfl <| mvi rfl <| idxT (s := t) i rfl rfl uy9 rfl (by first | omega | (simp; done) | (simp; omega) | (simp at *; omega)) <| equ8 (a := (List.getD t i 0)) (b := (92 : UInt8)) _ rfl rfl rfl <| agb rfl <| jt <| c_cond rfl (fun h5 => ?_) (fun h5 => ?_)
     ·replace h5 := ndt h5
      refine csr <| mvs rfl <| mvi rfl <| idxT (s := t) i rfl rfl uy9 rfl (by first | omega | (simp; done) | (simp; omega) | (simp at *; omega)) <| cal (bWriteByte2_ct b4 _ ha o xs hI1.2.1 (by first | omega | (simp; done) | (simp; omega) | (simp at *; omega)) (List.getD t i 0) ) [0, 1] [] [] rfl rfl rfl (by kernel_rfl) impl_nil rfl ?_; rintro _ _ _ ⟨bo40_1, hkbo40_1, rfl, rfl, rfl⟩; refine ⟨trivial, ?_⟩
      refine jt <| c_exit rfl <| e_then <| c_reg <| mvi rfl <| addi rfl rfl rfl (by omega) <| agi rfl <| jn ?_
      exact e_loop ((i + 1), (some ⟨b4, 0, none⟩), bo40_1, (xs ++ [(List.getD t i 0)])) (⟨.inr rfl, hkbo40_1, UQ.one HU (by omega) (fun h => by rcases h with h | h | h; omega; omega; exact absurd h (by assumption)) (by assumption), .inl (by simp)⟩) (by show t.length - _ < t.length - i; omega) (⟨rfl, trivial⟩) rfl rfl rfl
     ·replace h5 := ndf h5
      refine c_skip <| e_in <| e_then <| csr <| mvi rfl <| addi rfl rfl rfl (by omega) <| agi rfl <| jt <| c_block <| csr <| mvi rfl <| mvs rfl <| lenT (s := t) rfl uy9 <| cmp _ rfl rfl rfl <| mvb rfl <| jsplit 48 rfl (fun h6 => ?_) (fun h6 => ?_)
      ·replace h6 := of_decide_eq_true h6
       refine g_on rfl rfl rfl <| mvs rfl <| g_on rfl rfl rfl <| mvi rfl <| g_on rfl rfl rfl <| idxT (s := t) (i + 1) rfl rfl uy9 rfl (by first | omega | (simp; done) | (simp; omega) | (simp at *; omega)) <| g_on rfl rfl rfl <| equ8 (a := (List.getD t (i + 1) 0)) (b := (34 : UInt8)) _ rfl rfl rfl <| g_on rfl rfl rfl <| mvb rfl <| jsplit 53 rfl (fun h7 => ?_) (fun h7 => ?_)
       ·replace h7 := of_decide_eq_true h7
        refine g_off rfl rfl rfl rfl <| g_off rfl rfl rfl rfl <| g_off rfl rfl rfl rfl <| g_off rfl rfl rfl rfl <| g_on rfl rfl rfl <| pkt (.bool _) rfl rfl <| pkt (.bool _) rfl rfl <| agb rfl <| jt <| c_true rfl <| c_reg <| mvs rfl <| mvi rfl <| idxT (s := t) (i + 1) rfl rfl uy9 rfl (by first | omega | (simp; done) | (simp; omega) | (simp at *; omega)) <| cal (bWriteByte2_ct b4 _ ha o xs hI1.2.1 (by first | omega | (simp; done) | (simp; omega) | (simp at *; omega)) (List.getD t (i + 1) 0) ) [0, 1] [] [] rfl rfl rfl (by kernel_rfl) impl_nil rfl ?_; rintro _ _ _ ⟨bo63_2, hkbo63_2, rfl, rfl, rfl⟩; refine ⟨trivial, ?_⟩
        refine jn <| e_in <| e_in <| e_then <| c_reg <| mvi rfl <| addi rfl rfl rfl (by omega) <| agi rfl <| jn ?_
        exact e_loop (((i + 1) + 1), (some ⟨b4, 0, none⟩), bo63_2, (xs ++ [(List.getD t (i + 1) 0)])) (⟨.inr rfl, hkbo63_2, UQ.two HU (by omega) (by assumption) (by first | exact .inl (by assumption) | exact .inr (by assumption)), .inl (by simp)⟩) (by show t.length - _ < t.length - i; omega) (⟨rfl, trivial⟩) rfl rfl rfl
       ·replace h7 := of_decide_eq_false h7
        refine g_on rfl rfl rfl <| mvs rfl <| g_on rfl rfl rfl <| mvi rfl <| g_on rfl rfl rfl <| idxT (s := t) (i + 1) rfl rfl uy9 rfl (by first | omega | (simp; done) | (simp; omega) | (simp at *; omega)) <| g_on rfl rfl rfl <| equ8 (a := (List.getD t (i + 1) 0)) (b := (92 : UInt8)) _ rfl rfl rfl <| g_on rfl rfl rfl <| pkf (.bool _) rfl rfl <| pkt (.bool _) rfl rfl <| agb rfl <| jt <| c_cond rfl (fun h8 => ?_) (fun h8 => ?_)
        ·replace h8 := of_decide_eq_true h8
         refine c_reg <| mvs rfl <| mvi rfl <| idxT (s := t) (i + 1) rfl rfl uy9 rfl (by first | omega | (simp; done) | (simp; omega) | (simp at *; omega)) <| cal (bWriteByte2_ct b4 _ ha o xs hI1.2.1 (by first | omega | (simp; done) | (simp; omega) | (simp at *; omega)) (List.getD t (i + 1) 0) ) [0, 1] [] [] rfl rfl rfl (by kernel_rfl) impl_nil rfl ?_; rintro _ _ _ ⟨bo63_3, hkbo63_3, rfl, rfl, rfl⟩; refine ⟨trivial, ?_⟩
         refine jn <| e_in <| e_in <| e_then <| c_reg <| mvi rfl <| addi rfl rfl rfl (by omega) <| agi rfl <| jn ?_
         exact e_loop (((i + 1) + 1), (some ⟨b4, 0, none⟩), bo63_3, (xs ++ [(List.getD t (i + 1) 0)])) (⟨.inr rfl, hkbo63_3, UQ.two HU (by omega) (by assumption) (by first | exact .inl (by assumption) | exact .inr (by assumption)), .inl (by simp)⟩) (by show t.length - _ < t.length - i; omega) (⟨rfl, trivial⟩) rfl rfl rfl
        ·replace h8 := of_decide_eq_false h8
         refine csr <| mvi rfl <| mvs rfl <| lenT (s := t) rfl uy9 <| cmp _ rfl rfl rfl <| mvb rfl <| jsplit 69 rfl (fun h9 => ?_) (fun h9 => ?_)
         ·replace h9 := of_decide_eq_true h9
          refine g_on rfl rfl rfl <| mvs rfl <| g_on rfl rfl rfl <| mvi rfl <| g_on rfl rfl rfl <| idxT (s := t) (i + 1) rfl rfl uy9 rfl (by first | omega | (simp; done) | (simp; omega) | (simp at *; omega)) <| g_on rfl rfl rfl <| equ8 (a := (List.getD t (i + 1) 0)) (b := (117 : UInt8)) _ rfl rfl rfl <| pkt (.bool _) rfl rfl <| agb rfl <| jt <| c_cond rfl (fun h10 => ?_) (fun h10 => ?_)
          ·replace h10 := of_decide_eq_true h10
           refine csr <| mvs rfl <| mvi rfl <| addi rfl rfl rfl (by omega) <| cutT (s := t) ((i + 1) + 1) t.length rfl uy9 ⟨_, rfl⟩ rfl (by first | omega | (simp; done) | (simp; omega)) (by first | omega | (simp; done) | (simp; omega)) (List.drop ((i + 1) + 1) t) (cut_hi _ _) <| cal (coded_ct (List.drop ((i + 1) + 1) t) (by simp; omega) eu ev ru rv) [] [0, 1] [_, _] rfl rfl rfl (by kernel_rfl) (impl_cons (impl_at 0 rfl) (impl_cons (impl_at 1 rfl) (impl_cons (impl_at 2 rfl) impl_nil))) rfl ?_; rintro _ _ _ ⟨cc4, cn4, cb4, hcy4, hcn4, rfl, rfl, rfl⟩; refine ⟨trivial, ?_⟩
           refine mv (.tuple _) rfl <| xtr (.int _ _) rfl rfl <| xtr (.int _ _) rfl rfl <| xtr (.bool _) rfl rfl <| agi rfl <| agi rfl <| agb rfl <| jt <| c_seq <| csr <| mvb rfl <| not_ rfl <| jt <| c_cond rfl (fun h11 => ?_) (fun h11 => ?_)
           ·refine csr <| ags rfl <| agb rfl <| jt <| c_ret ?_
            exact j_d (own0 := []) (ro0 := [tDb64 11, tIf 7 eu ev, tIf 8 ru rv]) (.inl rfl) rfl (hr2 Tryz.results104 (rvt (v := (.string _)) rfl) (rvt (v := (.bool _)) rfl)) [0, 1] [_, _] rfl (by kernel_rfl) rfl (⟨[], false, fun h => (by cases h), fun _ => UQ.uncode HU (by omega) (by assumption) (by assumption) (hcn4 (notT (by assumption))), by simp, rfl, rfl, rfl⟩)
           ·refine c_skip <| e_then <| c_seq ?_
            obtain ⟨ck, cm, rfl, rfl, hcd⟩ := hcy4 (notF (by assumption))
            have HCC := UQ.code HU (by omega) (by assumption) (by assumption) hcd
            have HCV := HCC.2.1
            have HCL := HCC.2.2
            refine c_reg <| mvi rfl <| cal (bWriteRune2_ct b4 _ ha o xs hI1.2.1 (by first | omega | (simp; done) | (simp; omega) | (simp at *; omega)) ck (by assumption)) [0, 1] [] [] rfl rfl rfl (by kernel_rfl) impl_nil rfl ?_; rintro _ _ _ ⟨bo87_5, hkbo87_5, rfl, rfl, rfl⟩; refine ⟨trivial, ?_⟩
            refine jr <| mvi rfl <| mvi rfl <| addi rfl rfl rfl (by omega) <| agi rfl <| jn <| e_in <| e_in <| e_then <| c_reg <| mvi rfl <| addi rfl rfl rfl (by omega) <| agi rfl <| jn ?_
            exact e_loop ((((i + 1) + cm) + 1), (some ⟨b4, 0, none⟩), bo87_5, (xs ++ enc8 ck)) (⟨.inr rfl, hkbo87_5, (UQ.code HU (by omega) (by assumption) (by assumption) hcd).1, .inl (by have := enc8_len ck; simp; omega)⟩) (by show t.length - _ < t.length - i; omega) (⟨rfl, trivial⟩) rfl rfl rfl
          ·replace h10 := of_decide_eq_false h10
           refine csr <| ags rfl <| agb rfl <| jt <| c_ret ?_
           exact j_d (own0 := []) (ro0 := [tDb64 11, tIf 7 eu ev, tIf 8 ru rv]) (.inl rfl) rfl (hr2 Tryz.results104 (rvt (v := (.string _)) rfl) (rvt (v := (.bool _)) rfl)) [0, 1] [_, _] rfl (by kernel_rfl) rfl (⟨[], false, fun h => (by cases h), fun _ => (by first | exact UQ.bad HU (by omega) (.inl (by omega)) | exact UQ.bad HU (by omega) (.inr (.inl (by omega))) | exact UQ.bad HU (by omega) (.inr (.inr (by assumption))) | exact UQ.no HU (by omega) (by assumption) (fun hl => ⟨by first | assumption | (exfalso; omega), by first | assumption | (exfalso; omega), by first | assumption | (exfalso; omega)⟩)), by simp, rfl, rfl, rfl⟩)
         ·replace h9 := of_decide_eq_false h9
          refine g_off rfl rfl rfl rfl <| g_off rfl rfl rfl rfl <| g_off rfl rfl rfl rfl <| g_off rfl rfl rfl rfl <| pkf (.bool _) rfl rfl <| agb rfl <| jt <| c_false rfl <| csr <| ags rfl <| agb rfl <| jt <| c_ret ?_
          exact j_d (own0 := []) (ro0 := [tDb64 11, tIf 7 eu ev, tIf 8 ru rv]) (.inl rfl) rfl (hr2 Tryz.results104 (rvt (v := (.string _)) rfl) (rvt (v := (.bool _)) rfl)) [0, 1] [_, _] rfl (by kernel_rfl) rfl (⟨[], false, fun h => (by cases h), fun _ => (by first | exact UQ.bad HU (by omega) (.inl (by omega)) | exact UQ.bad HU (by omega) (.inr (.inl (by omega))) | exact UQ.bad HU (by omega) (.inr (.inr (by assumption))) | exact UQ.no HU (by omega) (by assumption) (fun hl => ⟨by first | assumption | (exfalso; omega), by first | assumption | (exfalso; omega), by first | assumption | (exfalso; omega)⟩)), by simp, rfl, rfl, rfl⟩)
      ·replace h6 := of_decide_eq_false h6
       refine g_off rfl rfl rfl rfl <| g_off rfl rfl rfl rfl <| g_off rfl rfl rfl rfl <| g_off rfl rfl rfl rfl <| g_off rfl rfl rfl rfl <| g_und rfl rfl rfl <| g_und rfl rfl rfl <| g_und rfl rfl rfl <| g_und rfl rfl rfl <| g_off rfl rfl rfl rfl <| pkf (.bool _) rfl rfl <| agb rfl <| jt <| c_false rfl <| csr <| mvi rfl <| mvs rfl <| lenT (s := t) rfl uy9 <| cmp _ rfl rfl rfl <| mvb rfl <| jsplit 69 rfl (fun h12 => ?_) (fun h12 => ?_)
       ·replace h12 := of_decide_eq_true h12
        refine g_on rfl rfl rfl <| mvs rfl <| g_on rfl rfl rfl <| mvi rfl <| g_on rfl rfl rfl <| idxT (s := t) (i + 1) rfl rfl uy9 rfl (by first | omega | (simp; done) | (simp; omega) | (simp at *; omega)) <| g_on rfl rfl rfl <| equ8 (a := (List.getD t (i + 1) 0)) (b := (117 : UInt8)) _ rfl rfl rfl <| pkt (.bool _) rfl rfl <| agb rfl <| jt <| c_cond rfl (fun h13 => ?_) (fun h13 => ?_)
        ·replace h13 := of_decide_eq_true h13
         refine csr <| mvs rfl <| mvi rfl <| addi rfl rfl rfl (by omega) <| cutT (s := t) ((i + 1) + 1) t.length rfl uy9 ⟨_, rfl⟩ rfl (by first | omega | (simp; done) | (simp; omega)) (by first | omega | (simp; done) | (simp; omega)) (List.drop ((i + 1) + 1) t) (cut_hi _ _) <| cal (coded_ct (List.drop ((i + 1) + 1) t) (by simp; omega) eu ev ru rv) [] [0, 1] [_, _] rfl rfl rfl (by kernel_rfl) (impl_cons (impl_at 0 rfl) (impl_cons (impl_at 1 rfl) (impl_cons (impl_at 2 rfl) impl_nil))) rfl ?_; rintro _ _ _ ⟨cc6, cn6, cb6, hcy6, hcn6, rfl, rfl, rfl⟩; refine ⟨trivial, ?_⟩
         refine mv (.tuple _) rfl <| xtr (.int _ _) rfl rfl <| xtr (.int _ _) rfl rfl <| xtr (.bool _) rfl rfl <| agi rfl <| agi rfl <| agb rfl <| jt <| c_seq <| csr <| mvb rfl <| not_ rfl <| jt <| c_cond rfl (fun h14 => ?_) (fun h14 => ?_)
         ·refine csr <| ags rfl <| agb rfl <| jt <| c_ret ?_
          exact j_d (own0 := []) (ro0 := [tDb64 11, tIf 7 eu ev, tIf 8 ru rv]) (.inl rfl) rfl (hr2 Tryz.results104 (rvt (v := (.string _)) rfl) (rvt (v := (.bool _)) rfl)) [0, 1] [_, _] rfl (by kernel_rfl) rfl (⟨[], false, fun h => (by cases h), fun _ => UQ.uncode HU (by omega) (by assumption) (by assumption) (hcn6 (notT (by assumption))), by simp, rfl, rfl, rfl⟩)
         ·refine c_skip <| e_then <| c_seq ?_
          obtain ⟨ck, cm, rfl, rfl, hcd⟩ := hcy6 (notF (by assumption))
          have HCC := UQ.code HU (by omega) (by assumption) (by assumption) hcd
          have HCV := HCC.2.1
          have HCL := HCC.2.2
          refine c_reg <| mvi rfl <| cal (bWriteRune2_ct b4 _ ha o xs hI1.2.1 (by first | omega | (simp; done) | (simp; omega) | (simp at *; omega)) ck (by assumption)) [0, 1] [] [] rfl rfl rfl (by kernel_rfl) impl_nil rfl ?_; rintro _ _ _ ⟨bo87_7, hkbo87_7, rfl, rfl, rfl⟩; refine ⟨trivial, ?_⟩
          refine jr <| mvi rfl <| mvi rfl <| addi rfl rfl rfl (by omega) <| agi rfl <| jn <| e_in <| e_in <| e_then <| c_reg <| mvi rfl <| addi rfl rfl rfl (by omega) <| agi rfl <| jn ?_
          exact e_loop ((((i + 1) + cm) + 1), (some ⟨b4, 0, none⟩), bo87_7, (xs ++ enc8 ck)) (⟨.inr rfl, hkbo87_7, (UQ.code HU (by omega) (by assumption) (by assumption) hcd).1, .inl (by have := enc8_len ck; simp; omega)⟩) (by show t.length - _ < t.length - i; omega) (⟨rfl, trivial⟩) rfl rfl rfl
        ·replace h13 := of_decide_eq_false h13
         refine csr <| ags rfl <| agb rfl <| jt <| c_ret ?_
         exact j_d (own0 := []) (ro0 := [tDb64 11, tIf 7 eu ev, tIf 8 ru rv]) (.inl rfl) rfl (hr2 Tryz.results104 (rvt (v := (.string _)) rfl) (rvt (v := (.bool _)) rfl)) [0, 1] [_, _] rfl (by kernel_rfl) rfl (⟨[], false, fun h => (by cases h), fun _ => (by first | exact UQ.bad HU (by omega) (.inl (by omega)) | exact UQ.bad HU (by omega) (.inr (.inl (by omega))) | exact UQ.bad HU (by omega) (.inr (.inr (by assumption))) | exact UQ.no HU (by omega) (by assumption) (fun hl => ⟨by first | assumption | (exfalso; omega), by first | assumption | (exfalso; omega), by first | assumption | (exfalso; omega)⟩)), by simp, rfl, rfl, rfl⟩)
       ·replace h12 := of_decide_eq_false h12
        refine g_off rfl rfl rfl rfl <| g_off rfl rfl rfl rfl <| g_off rfl rfl rfl rfl <| g_off rfl rfl rfl rfl <| pkf (.bool _) rfl rfl <| agb rfl <| jt <| c_false rfl <| csr <| ags rfl <| agb rfl <| jt <| c_ret ?_
        exact j_d (own0 := []) (ro0 := [tDb64 11, tIf 7 eu ev, tIf 8 ru rv]) (.inl rfl) rfl (hr2 Tryz.results104 (rvt (v := (.string _)) rfl) (rvt (v := (.bool _)) rfl)) [0, 1] [_, _] rfl (by kernel_rfl) rfl (⟨[], false, fun h => (by cases h), fun _ => (by first | exact UQ.bad HU (by omega) (.inl (by omega)) | exact UQ.bad HU (by omega) (.inr (.inl (by omega))) | exact UQ.bad HU (by omega) (.inr (.inr (by assumption))) | exact UQ.no HU (by omega) (by assumption) (fun hl => ⟨by first | assumption | (exfalso; omega), by first | assumption | (exfalso; omega), by first | assumption | (exfalso; omega)⟩)), by simp, rfl, rfl, rfl⟩)
 ·replace h1 := of_decide_eq_false h1
  refine c_exit rfl <| e_then <| csr <| cal (bString2_ct b4 _ ha o xs hI1.2.1 (by first | omega | (simp; done) | (simp; omega) | (simp at *; omega)) (by assumption)) [0, 1] [] [] rfl rfl rfl (by kernel_rfl) impl_nil rfl ?_; rintro _ _ _ ⟨rfl, rfl, rfl⟩; refine ⟨trivial, ?_⟩
  refine ags rfl <| agb rfl <| jt <| c_ret ?_
  exact j_z (own0 := []) (ro0 := [tDb64 11, tIf 7 eu ev, tIf 8 ru rv]) (.inl rfl) rfl (hr2 Tryz.results104 (rvt (v := (.string _)) rfl) (rvt (v := (.bool _)) rfl)) rfl (⟨_, true, fun _ => UQ.fin HU (by omega), fun h => (by cases h), by omega, rfl, rfl, rfl⟩)
end Go.Proofs.YtakbbpahfclgnaaGreatDoor
namespace Go.PW
open Go
theorem textR_next {s : Str} {lo hi p q : Nat} {t : Str} (h : textR s lo hi p = .inr (t, q)) : p < q ∧ q ≤ s.length := by
  unfold textR at h
  by_cases hb : blk s p = true
  · rw [if_pos hb] at h
    have hp := blk_lt hb
    by_cases h2 : p + 1 < s.length ∧ List.getD s (p + 1) 0 = 34 ∧ qstop s (p + 2) < s.length
    · rw [if_pos h2] at h
      have := qstop_ge s.length s (p + 2) (by omega)
      cases hu : unq (qin s (p + 1)) with
      | none => rw [hu] at h; cases h
      | some x =>
        rw [hu] at h
        simp only at h
        by_cases h3 : lo ≤ x.length ∧ x.length ≤ hi
        · rw [if_pos h3] at h; cases h; omega
        · rw [if_neg h3] at h; cases h
    · rw [if_neg h2] at h; cases h
  · rw [if_neg hb] at h; cases h
theorem marksR_l {s : Str} {f least q k : Nat} {ms : List UInt32} (h : numR s least 4294967295 q = .inl k) (hf : 1 ≤ f) : marksR s f ms least q = .inl k := by
  obtain ⟨f, rfl⟩ : ∃ g, f = g + 1 := ⟨f - 1, by omega⟩
  unfold marksR; rw [h]
theorem marksR_full {s : Str} {f least q k n : Nat} {ms : List UInt32} (h : numR s least 4294967295 q = .inr (n, k)) (hf : 1 ≤ f) (hl : ms.length = 100) : marksR s f ms least q = .inl (q + 1) := by
  obtain ⟨f, rfl⟩ : ∃ g, f = g + 1 := ⟨f - 1, by omega⟩
  unfold marksR; rw [h]; simp only; rw [if_pos hl]
theorem marksR_more {s : Str} {f least q k n : Nat} {ms : List UInt32} (h : numR s least 4294967295 q = .inr (n, k)) (hf : 1 ≤ f) (hl : ms.length ≠ 100) (hk : k < s.length) : marksR s f ms least q = marksR s (f - 1) (ms ++ [UInt32.ofNat n]) (n + 1) k := by
  obtain ⟨f, rfl⟩ : ∃ g, f = g + 1 := ⟨f - 1, by omega⟩
  conv => lhs; unfold marksR
  rw [h]; simp only; rw [if_neg hl, if_pos hk]; rfl
theorem marksR_end {s : Str} {f least q k n : Nat} {ms : List UInt32} (h : numR s least 4294967295 q = .inr (n, k)) (hf : 1 ≤ f) (hl : ms.length ≠ 100) (hk : ¬ k < s.length) : marksR s f ms least q = .inr (ms ++ [UInt32.ofNat n], k) := by
  obtain ⟨f, rfl⟩ : ∃ g, f = g + 1 := ⟨f - 1, by omega⟩
  unfold marksR; rw [h]; simp only; rw [if_neg hl, if_neg hk]
structure MK (s : Str) (p : Nat) (ms : List UInt32) (least q : Nat) (bad : Bool) : Prop where
  qle : q ≤ s.length
  len : ms.length ≤ 101
  good : bad = false → (ms.length ≤ 100 ∧ least ≤ 4294967296) ∧ ((ms.length = 0 ∨ q < s.length) → marksR s 102 [] 0 p = marksR s (102 - ms.length) ms least q) ∧ (¬(ms.length = 0 ∨ q < s.length) → marksR s 102 [] 0 p = .inr (ms, q))
  bad : bad = true → marksR s 102 [] 0 p = .inl q
theorem MK.start {s : Str} {p : Nat} (hp : p ≤ s.length) : MK s p [] 0 p false := ⟨hp, by simp, fun _ => ⟨by simp, fun _ => rfl, fun h => by simp at h⟩, fun h => by cases h⟩
theorem MK.fail {s : Str} {p least q k : Nat} {ms : List UInt32} {x : UInt32} {l : Nat} (h : MK s p ms least q false) (hg : ms.length = 0 ∨ q < s.length) (hn : numR s least 4294967295 q = .inl k) (hk : k ≤ s.length) : MK s p (ms ++ [x]) l k true := by
  have hh := h.good rfl
  exact ⟨hk, (by simp; omega), (fun h => by cases h), fun _ => (hh.2.1 hg).trans (marksR_l hn (by omega))⟩
theorem MK.full {s : Str} {p least q k n : Nat} {ms : List UInt32} {x : UInt32} {l : Nat} (h : MK s p ms least q false) (hg : ms.length = 0 ∨ q < s.length) (hn : numR s least 4294967295 q = .inr (n, k)) (hm : ms.length = 100) (hq : q + 1 ≤ s.length) : MK s p (ms ++ [x]) l (q + 1) true := by
  have hh := h.good rfl
  exact ⟨hq, (by simp; omega), (fun h => by cases h), fun _ => (hh.2.1 hg).trans (marksR_full hn (by omega) hm)⟩
theorem MK.go {s : Str} {p least q k n : Nat} {ms : List UInt32} (h : MK s p ms least q false) (hg : ms.length = 0 ∨ q < s.length) (hn : numR s least 4294967295 q = .inr (n, k)) (hm : ms.length ≠ 100) (hk : k ≤ s.length) (hl : n ≤ 4294967295) : MK s p (ms ++ [UInt32.ofNat n]) (n + 1) k false := by
  have hh := h.good rfl
  refine ⟨hk, by simp; omega, fun _ => ⟨⟨by simp; omega, by omega⟩, fun hc => ?_, fun hc => ?_⟩, fun h => by cases h⟩
  · have hk' : k < s.length := by rcases hc with hc | hc; simp at hc; exact hc
    rw [hh.2.1 hg, marksR_more hn (by omega) hm hk']
    congr 1; simp; omega
  · have hk' : ¬ k < s.length := fun h => hc (.inr h)
    rw [hh.2.1 hg, marksR_end hn (by omega) hm hk']
theorem mk_less {s : Str} {p least q : Nat} {ms ms' : List UInt32} {bad : Bool} (h : MK s p ms least q false) (hb : bad = bad) (hl : ms'.length = ms.length + 1) : (if bad = true then 0 else 102 - ms'.length) < (if false = true then 0 else 102 - ms.length) := by
  have := (h.good rfl).1
  cases bad <;> simp <;> omega
theorem u64_suc {n : UInt64} (h : n.toNat ≤ 4294967295) : (n + 1).toNat = n.toNat + 1 := by
  rw [UInt64.toNat_add]; show (n.toNat + 1) % 2 ^ 64 = _; omega
end Go.PW
namespace Go.Proofs.YtakbbpahfclgnaaGreatDoor
open Go Go.Proofs Go.PW
open Go.PW.Enc (enc val)
theorem text_bad (b : Nat) (s : Str) (p : Nat) (hs : s.length ≤ 140737488351232) (hp : p ≤ s.length) (lo hi : Nat) (hlo : lo ≤ 1000000) (hhi : hi ≤ 1000000) : Ct Tryz.prog 67 [.pointer (some ⟨b, 0, none⟩), .int .i64 (lo : Int), .int .i64 (hi : Int)] [[(b, .cells (cat [pt s, p1 (.int .i64 ((p : Nat) : Int)), p1 (.bool true)]) 137)]] [] (fun v o r => v = strV [] ∧ o = [[(b, .cells (cat [pt s, p1 (.int .i64 ((p : Nat) : Int)), p1 (.bool true)]) 137)]] ∧ r = []) := by
 refine ct_enter Tryz.func67 rfl Tryz.ntmps67 (by kernel_rfl) rfl fun w0 => ?_
 refine csr <| ags rfl <| jt <| c_seq <| csr <| mvp rfl <| cal (begin_bad b s p (by omega) (by omega)) [0] [] [] rfl rfl rfl (by kernel_rfl) impl_nil rfl ?_; rintro _ _ _ ⟨rfl, rfl, rfl⟩; refine ⟨trivial, ?_⟩
 refine not_ rfl <| jt <| c_true rfl <| csr <| ags rfl <| jt <| c_ret ?_
 exact j_end (own0 := [[(b, .cells (cat [pt s, p1 (.int .i64 ((p : Nat) : Int)), p1 (.bool true)]) 137)]]) (ro0 := []) (.inl rfl) rfl (hr1 Tryz.results67 (rvt (v := (.string _)) rfl)) [0] [] [_] [] [] _ rfl rfl (by kernel_rfl) rfl impl_nil (⟨rfl, rfl, rfl⟩)
theorem text_rct (b : Nat) (s : Str) (p : Nat) (hs : s.length ≤ 140737488351232) (hp : p ≤ s.length) (lo hi : Nat) (hlo : lo ≤ 1000000) (hhi : hi ≤ 1000000) (eu : TypeId) (ev : Value) (ru : TypeId) (rv : Value) : Ct Tryz.prog 67 [.pointer (some ⟨b, 0, none⟩), .int .i64 (lo : Int), .int .i64 (hi : Int)] [[(b, .cells (cat [pt s, p1 (.int .i64 ((p : Nat) : Int)), p1 (.bool false)]) 137)]] [tDb64 11, tIf 7 eu ev, tIf 8 ru rv] (fun v o r => (∃ (n : Str) (q : Nat), textR s lo hi p = .inr (n, q) ∧ v = strV n ∧ o = [[(b, .cells (cat [pt s, p1 (.int .i64 ((q : Nat) : Int)), p1 (.bool false)]) 137)]] ∧ r = []) ∨ (∃ (n : Str) (q : Nat), textR s lo hi p = .inl q ∧ q ≤ s.length ∧ v = strV n ∧ o = [[(b, .cells (cat [pt s, p1 (.int .i64 ((q : Nat) : Int)), p1 (.bool true)]) 137)]] ∧ r = [])) := by
 have HRL : (List.drop (p + 1) s).length = s.length - (p + 1) := List.length_drop
 refine ct_enter Tryz.func67 rfl Tryz.ntmps67 (by kernel_rfl) rfl fun w0 => ?_
 refine csr <| ags rfl <| jt <| c_seq <| csr <| mvp rfl <| cal (begin_ct b s p (by omega) (by omega)) [0] [] [] rfl rfl rfl (by kernel_rfl) impl_nil rfl ?_; rintro _ _ _ (⟨hbl1, rfl, rfl, rfl⟩ | ⟨hbl1, rfl, rfl, rfl⟩)
 ·have hpl1 := blk_lt hbl1; refine ⟨trivial, ?_⟩
  refine not_ rfl <| jt <| c_false rfl <| c_skip <| e_then <| c_seq <| c_dr [_, _, _, _] [] [(0, 0), (1, 0), (2, 0), (3, 0), (4, 0), (5, 0), (6, 0), (7, 0), (8, 0), (9, 0)] follows (by kernel_rfl) calm_body (keepS [0, 1, 2, 3] rfl) <| mvp rfl <| nlc rfl <| fad rfl uy137 rfl ty9.sz <| ldp 0 0 _ rfl rfl rfl rfl ty9 <| mvp rfl <| nlc rfl <| fad rfl uy137 rfl ty3.sz <| ldp 0 1 _ rfl rfl rfl rfl ty3 <| cutT (s := s) (p + 1) s.length rfl uy9 ⟨_, rfl⟩ rfl (by omega) (by omega) (List.drop (p + 1) s) (cut_hi _ _) <| ags rfl <| jsr <| agi rfl <| jt <| c_seq <| c_block <| c_loop (σ := Nat) (fun e => 1 ≤ e ∧ e ≤ s.length - (p + 1) + 1 ∧ qstop s (p + 1 + e) = qstop s (p + 2)) (fun e => s.length + 2 - e) (fun e => [(8, .int .i64 (e : Int))]) (fun e => [[(b, .cells (cat [pt s, p1 (.int .i64 (((p + 1) : Nat) : Int)), p1 (.bool false)]) 137)]]) (fun e => [tDb64 11, tIf 7 eu ev, tIf 8 ru rv]) [8, 23, 24, 25, 26, 27, 28, 29, 30, 31, 32, 33, 34, 35, 36, 37, 38, 39, 40] 1 (⟨by omega, by omega, rfl⟩) ⟨rfl, trivial⟩ rfl rfl ?_
  rintro e g1 hI1
  try dsimp only at hI1 ⊢
  refine c_seq <| csr <| mvi rfl <| mvs rfl <| lenT (s := (List.drop (p + 1) s)) rfl uy9 <| cmp _ rfl rfl rfl <| mvb rfl <| jsplit 27 rfl (fun h1 => ?_) (fun h1 => ?_)
  ·replace h1 := of_decide_eq_true h1
   refine g_on rfl rfl rfl <| mvs rfl <| g_on rfl rfl rfl <| mvi rfl <| g_on rfl rfl rfl <| idxT (s := (List.drop (p + 1) s)) e rfl rfl uy9 rfl (by omega) <| g_on rfl rfl rfl <| equ8 (a := (List.getD (List.drop (p + 1) s) e 0)) (b := (34 : UInt8)) _ rfl rfl rfl <| pkt (.bool _) rfl rfl <| jt <| c_cond rfl (fun h2 => ?_) (fun h2 => ?_)
   ·replace h2 := ndt h2
    refine c_skip <| e_then <| c_block <| c_seq <| csr <| mvs rfl <| mvi rfl <| idxT (s := (List.drop (p + 1) s)) e rfl rfl uy9 rfl (by omega) <| equ8 (a := (List.getD (List.drop (p + 1) s) e 0)) (b := (92 : UInt8)) _ rfl rfl rfl <| jt <| c_cond rfl (fun h3 => ?_) (fun h3 => ?_)
    ·replace h3 := of_decide_eq_true h3
     refine c_reg <| mvi rfl <| addi rfl rfl rfl (by omega) <| agi rfl <| jr <| mvi rfl <| addi rfl rfl rfl (by omega) <| agi rfl <| jn <| e_in ?_
     exact e_loop ((e + 1) + 1) (⟨by omega, by omega, by rw [show p + 1 + (e + 1 + 1) = p + 1 + e + 2 by omega, ← qstop_two (by omega) (by rw [← getD_drop]; assumption)]; exact hI1.2.2⟩) (by show s.length + 2 - _ < s.length + 2 - e; omega) (⟨rfl, trivial⟩) rfl rfl rfl
    ·replace h3 := of_decide_eq_false h3
     refine c_skip <| e_then <| c_reg <| mvi rfl <| addi rfl rfl rfl (by omega) <| agi rfl <| jn <| e_in ?_
     exact e_loop (e + 1) (⟨by omega, by omega, by rw [show p + 1 + (e + 1) = p + 1 + e + 1 by omega, ← qstop_one (by omega) (by rw [← getD_drop]; assumption) (by rw [← getD_drop]; assumption)]; exact hI1.2.2⟩) (by show s.length + 2 - _ < s.length + 2 - e; omega) (⟨rfl, trivial⟩) rfl rfl rfl
   ·replace h2 := ndf h2
    refine c_exit rfl <| e_then <| c_seq <| csr <| mvi rfl <| mvs rfl <| lenT (s := (List.drop (p + 1) s)) rfl uy9 <| cmp _ rfl rfl rfl <| mvb rfl <| jsplit 45 rfl (fun h4 => ?_) (fun h4 => ?_)
    ·replace h4 := of_decide_eq_true h4
     refine g_off rfl rfl rfl rfl <| g_off rfl rfl rfl rfl <| g_off rfl rfl rfl rfl <| pkt (.bool _) rfl rfl <| jt <| c_true rfl <| csr <| mvp rfl <| nlc rfl <| fad rfl uy137 rfl ty4.sz <| stp 0 2 _ (p1 (.bool true)) rfl rfl rfl rfl rfl rfl ty4 ⟨trivial, ?_⟩
     refine jsr <| ags rfl <| jt <| c_ret ?_
     exact j_end (own0 := [[(b, .cells (cat [pt s, p1 (.int .i64 ((p : Nat) : Int)), p1 (.bool false)]) 137)]]) (ro0 := [tDb64 11, tIf 7 eu ev, tIf 8 ru rv]) (.inl rfl) rfl (hr1 Tryz.results67 (rvt (v := (.string _)) rfl)) [0] [] [_] [] [] _ rfl rfl (by kernel_rfl) rfl impl_nil (.inr ⟨[], (p + 1), textR_out (by assumption) (fun hh => by first | (have := qstop_ge (s.length) s (p + 1 + e) (by omega); rw [hI1.2.2] at this; omega) | exact (show ¬ List.getD (List.drop (p + 1) s) 0 0 = 34 by assumption) (by rw [getD_drop, Nat.add_zero]; exact hh.2.1)), by omega, rfl, rfl, rfl⟩)
    ·replace h4 := of_decide_eq_false h4
     refine g_on rfl rfl rfl <| mvs rfl <| g_on rfl rfl rfl <| idxT (s := (List.drop (p + 1) s)) 0 rfl rfl uy9 rfl (by omega) <| g_on rfl rfl rfl <| equ8 (a := (List.getD (List.drop (p + 1) s) 0 0)) (b := (34 : UInt8)) _ rfl rfl rfl <| pkf (.bool _) rfl rfl <| jt <| c_cond rfl (fun h5 => ?_) (fun h5 => ?_)
     ·replace h5 := ndt h5
      refine csr <| mvp rfl <| nlc rfl <| fad rfl uy137 rfl ty4.sz <| stp 0 2 _ (p1 (.bool true)) rfl rfl rfl rfl rfl rfl ty4 ⟨trivial, ?_⟩
      refine jsr <| ags rfl <| jt <| c_ret ?_
      exact j_end (own0 := [[(b, .cells (cat [pt s, p1 (.int .i64 ((p : Nat) : Int)), p1 (.bool false)]) 137)]]) (ro0 := [tDb64 11, tIf 7 eu ev, tIf 8 ru rv]) (.inl rfl) rfl (hr1 Tryz.results67 (rvt (v := (.string _)) rfl)) [0] [] [_] [] [] _ rfl rfl (by kernel_rfl) rfl impl_nil (.inr ⟨[], (p + 1), textR_out (by assumption) (fun hh => by first | (have := qstop_ge (s.length) s (p + 1 + e) (by omega); rw [hI1.2.2] at this; omega) | exact (show ¬ List.getD (List.drop (p + 1) s) 0 0 = 34 by assumption) (by rw [getD_drop, Nat.add_zero]; exact hh.2.1)), by omega, rfl, rfl, rfl⟩)
     ·replace h5 := ndf h5
      refine c_skip <| e_then <| c_seq ?_
      have HQE : qstop s (p + 2) = p + 1 + e := by rw [← hI1.2.2]; exact qstop_end (fun hh => by first | omega | exact hh.2 (by rw [← getD_drop]; assumption))
      have HQI : qin s (p + 1) = List.take (e - 1) (List.drop 1 (List.drop (p + 1) s)) := by unfold qin; rw [List.drop_drop, HQE, show p + 1 + e - (p + 1 + 1) = e - 1 by omega]
      refine c_reg <| mvs rfl <| mvi rfl <| cutT (s := (List.drop (p + 1) s)) 1 e rfl uy9 ⟨_, rfl⟩ ⟨_, rfl⟩ (by omega) (by omega) (List.take (e - 1) (List.drop 1 (List.drop (p + 1) s))) rfl <| cal (plain_ct (List.take (e - 1) (List.drop 1 (List.drop (p + 1) s))) (by rw [List.length_take, List.length_drop]; omega) eu ev ru rv) [] [0] [_] rfl rfl rfl (by kernel_rfl) (impl_cons (impl_at 0 rfl) (impl_cons (impl_at 1 rfl) (impl_cons (impl_at 2 rfl) impl_nil))) rfl ?_; rintro _ _ _ ⟨px2, pb2, hpy2, hpn2, hpx2, rfl, rfl, rfl⟩; refine ⟨trivial, ?_⟩
      refine mv (.tuple _) rfl <| xtr (.string _) rfl rfl <| xtr (.bool _) rfl rfl <| ags rfl <| agb rfl <| jsr <| mvp rfl <| mvi rfl <| addi rfl rfl rfl (by omega) <| mvb rfl <| mvb rfl <| jsplit 64 rfl (fun h6 => ?_) (fun h6 => ?_)
      ·refine g_on rfl rfl rfl <| mvs rfl <| g_on rfl rfl rfl <| lenT (s := px2) rfl uy9 <| g_on rfl rfl rfl <| mvi rfl <| g_on rfl rfl rfl <| cmp _ rfl rfl rfl <| pkt (.bool _) rfl rfl <| mvb rfl <| jsplit 70 rfl (fun h7 => ?_) (fun h7 => ?_)
       ·replace h7 := of_decide_eq_true h7
        refine g_on rfl rfl rfl <| mvs rfl <| g_on rfl rfl rfl <| lenT (s := px2) rfl uy9 <| g_on rfl rfl rfl <| mvi rfl <| g_on rfl rfl rfl <| cmp _ rfl rfl rfl <| pkt (.bool _) rfl rfl <| cal (took_ct b s (p + 1) (e + 1) (decide ((px2.length : Int) ≤ (hi : Int))) (by omega)) [0] [] [] rfl rfl rfl (by kernel_rfl) impl_nil rfl ?_; rintro _ _ _ (⟨htk3, rfl, rfl, rfl⟩ | ⟨htk3, rfl, rfl, rfl⟩)
        ·replace htk3 := of_decide_eq_true htk3; refine ⟨trivial, ?_⟩
         refine jsr <| mvs rfl <| ags rfl <| jt <| c_ret ?_
         exact j_end (own0 := [[(b, .cells (cat [pt s, p1 (.int .i64 ((p : Nat) : Int)), p1 (.bool false)]) 137)]]) (ro0 := [tDb64 11, tIf 7 eu ev, tIf 8 ru rv]) (.inl rfl) rfl (hr1 Tryz.results67 (rvt (v := (.string _)) rfl)) [0] [] [_] [] [] _ rfl rfl (by kernel_rfl) rfl impl_nil (.inl ⟨px2, _, textR_ok (by assumption) ⟨by omega, by rw [← Nat.add_zero (p + 1), ← getD_drop]; assumption, by omega⟩ (by rw [HQI]; exact hpy2 (by assumption)) ⟨by omega, by omega⟩ |>.trans (by rw [HQE]; rfl), rfl, rfl, rfl⟩)
        ·replace htk3 := of_decide_eq_false htk3; refine ⟨trivial, ?_⟩
         refine jsr <| mvs rfl <| ags rfl <| jt <| c_ret ?_
         exact j_end (own0 := [[(b, .cells (cat [pt s, p1 (.int .i64 ((p : Nat) : Int)), p1 (.bool false)]) 137)]]) (ro0 := [tDb64 11, tIf 7 eu ev, tIf 8 ru rv]) (.inl rfl) rfl (hr1 Tryz.results67 (rvt (v := (.string _)) rfl)) [0] [] [_] [] [] _ rfl rfl (by kernel_rfl) rfl impl_nil (.inr ⟨px2, (p + 1), textR_bad (by assumption) (fun t ht hb => by rw [HQI] at ht; first | (rw [hpn2 (by assumption)] at ht; cases ht) | (rw [hpy2 (by assumption)] at ht; cases ht; omega)), by omega, rfl, rfl, rfl⟩)
       ·replace h7 := of_decide_eq_false h7
        refine g_off rfl rfl rfl rfl <| g_off rfl rfl rfl rfl <| g_off rfl rfl rfl rfl <| g_off rfl rfl rfl rfl <| pkf (.bool _) rfl rfl <| cal (took_f b s (p + 1) (e + 1) (by omega)) [0] [] [] rfl rfl rfl (by kernel_rfl) impl_nil rfl ?_; rintro _ _ _ ⟨rfl, rfl, rfl⟩; refine ⟨trivial, ?_⟩
        refine jsr <| mvs rfl <| ags rfl <| jt <| c_ret ?_
        exact j_end (own0 := [[(b, .cells (cat [pt s, p1 (.int .i64 ((p : Nat) : Int)), p1 (.bool false)]) 137)]]) (ro0 := [tDb64 11, tIf 7 eu ev, tIf 8 ru rv]) (.inl rfl) rfl (hr1 Tryz.results67 (rvt (v := (.string _)) rfl)) [0] [] [_] [] [] _ rfl rfl (by kernel_rfl) rfl impl_nil (.inr ⟨px2, (p + 1), textR_bad (by assumption) (fun t ht hb => by rw [HQI] at ht; first | (rw [hpn2 (by assumption)] at ht; cases ht) | (rw [hpy2 (by assumption)] at ht; cases ht; omega)), by omega, rfl, rfl, rfl⟩)
      ·refine g_off rfl rfl rfl rfl <| g_off rfl rfl rfl rfl <| g_off rfl rfl rfl rfl <| g_off rfl rfl rfl rfl <| pkf (.bool _) rfl rfl <| mvb rfl <| g_off rfl rfl rfl rfl <| g_off rfl rfl rfl rfl <| g_off rfl rfl rfl rfl <| g_off rfl rfl rfl rfl <| pkf (.bool _) rfl rfl <| cal (took_f b s (p + 1) (e + 1) (by omega)) [0] [] [] rfl rfl rfl (by kernel_rfl) impl_nil rfl ?_; rintro _ _ _ ⟨rfl, rfl, rfl⟩; refine ⟨trivial, ?_⟩
       refine jsr <| mvs rfl <| ags rfl <| jt <| c_ret ?_
       exact j_end (own0 := [[(b, .cells (cat [pt s, p1 (.int .i64 ((p : Nat) : Int)), p1 (.bool false)]) 137)]]) (ro0 := [tDb64 11, tIf 7 eu ev, tIf 8 ru rv]) (.inl rfl) rfl (hr1 Tryz.results67 (rvt (v := (.string _)) rfl)) [0] [] [_] [] [] _ rfl rfl (by kernel_rfl) rfl impl_nil (.inr ⟨px2, (p + 1), textR_bad (by assumption) (fun t ht hb => by rw [HQI] at ht; first | (rw [hpn2 (by assumption)] at ht; cases ht) | (rw [hpy2 (by assumption)] at ht; cases ht; omega)), by omega, rfl, rfl, rfl⟩)
  ·replace h1 := of_decide_eq_false h1
   refine g_off rfl rfl rfl rfl <| g_off rfl rfl rfl rfl <| g_off rfl rfl rfl rfl <| g_off rfl rfl rfl rfl <| pkf (.bool _) rfl rfl <| jt <| c_false rfl <| c_exit rfl <| e_then <| c_seq <| csr <| mvi rfl <| mvs rfl <| lenT (s := (List.drop (p + 1) s)) rfl uy9 <| cmp _ rfl rfl rfl <| mvb rfl <| jsplit 45 rfl (fun h8 => ?_) (fun h8 => ?_)
   ·replace h8 := of_decide_eq_true h8
    refine g_off rfl rfl rfl rfl <| g_off rfl rfl rfl rfl <| g_off rfl rfl rfl rfl <| pkt (.bool _) rfl rfl <| jt <| c_true rfl <| csr <| mvp rfl <| nlc rfl <| fad rfl uy137 rfl ty4.sz <| stp 0 2 _ (p1 (.bool true)) rfl rfl rfl rfl rfl rfl ty4 ⟨trivial, ?_⟩
    refine jsr <| ags rfl <| jt <| c_ret ?_
    exact j_end (own0 := [[(b, .cells (cat [pt s, p1 (.int .i64 ((p : Nat) : Int)), p1 (.bool false)]) 137)]]) (ro0 := [tDb64 11, tIf 7 eu ev, tIf 8 ru rv]) (.inl rfl) rfl (hr1 Tryz.results67 (rvt (v := (.string _)) rfl)) [0] [] [_] [] [] _ rfl rfl (by kernel_rfl) rfl impl_nil (.inr ⟨[], (p + 1), textR_out (by assumption) (fun hh => by first | (have := qstop_ge (s.length) s (p + 1 + e) (by omega); rw [hI1.2.2] at this; omega) | exact (show ¬ List.getD (List.drop (p + 1) s) 0 0 = 34 by assumption) (by rw [getD_drop, Nat.add_zero]; exact hh.2.1)), by omega, rfl, rfl, rfl⟩)
   ·replace h8 := of_decide_eq_false h8
    refine g_on rfl rfl rfl <| mvs rfl <| g_on rfl rfl rfl <| idxT (s := (List.drop (p + 1) s)) 0 rfl rfl uy9 rfl (by omega) <| g_on rfl rfl rfl <| equ8 (a := (List.getD (List.drop (p + 1) s) 0 0)) (b := (34 : UInt8)) _ rfl rfl rfl <| pkf (.bool _) rfl rfl <| jt <| c_cond rfl (fun h9 => ?_) (fun h9 => ?_)
    ·replace h9 := ndt h9
     refine csr <| mvp rfl <| nlc rfl <| fad rfl uy137 rfl ty4.sz <| stp 0 2 _ (p1 (.bool true)) rfl rfl rfl rfl rfl rfl ty4 ⟨trivial, ?_⟩
     refine jsr <| ags rfl <| jt <| c_ret ?_
     exact j_end (own0 := [[(b, .cells (cat [pt s, p1 (.int .i64 ((p : Nat) : Int)), p1 (.bool false)]) 137)]]) (ro0 := [tDb64 11, tIf 7 eu ev, tIf 8 ru rv]) (.inl rfl) rfl (hr1 Tryz.results67 (rvt (v := (.string _)) rfl)) [0] [] [_] [] [] _ rfl rfl (by kernel_rfl) rfl impl_nil (.inr ⟨[], (p + 1), textR_out (by assumption) (fun hh => by first | (have := qstop_ge (s.length) s (p + 1 + e) (by omega); rw [hI1.2.2] at this; omega) | exact (show ¬ List.getD (List.drop (p + 1) s) 0 0 = 34 by assumption) (by rw [getD_drop, Nat.add_zero]; exact hh.2.1)), by omega, rfl, rfl, rfl⟩)
    ·replace h9 := ndf h9
     refine c_skip <| e_then <| c_seq ?_
     have HQE : qstop s (p + 2) = p + 1 + e := by rw [← hI1.2.2]; exact qstop_end (fun hh => by first | omega | exact hh.2 (by rw [← getD_drop]; assumption))
     have HQI : qin s (p + 1) = List.take (e - 1) (List.drop 1 (List.drop (p + 1) s)) := by unfold qin; rw [List.drop_drop, HQE, show p + 1 + e - (p + 1 + 1) = e - 1 by omega]
     refine c_reg <| mvs rfl <| mvi rfl <| cutT (s := (List.drop (p + 1) s)) 1 e rfl uy9 ⟨_, rfl⟩ ⟨_, rfl⟩ (by omega) (by omega) (List.take (e - 1) (List.drop 1 (List.drop (p + 1) s))) rfl <| cal (plain_ct (List.take (e - 1) (List.drop 1 (List.drop (p + 1) s))) (by rw [List.length_take, List.length_drop]; omega) eu ev ru rv) [] [0] [_] rfl rfl rfl (by kernel_rfl) (impl_cons (impl_at 0 rfl) (impl_cons (impl_at 1 rfl) (impl_cons (impl_at 2 rfl) impl_nil))) rfl ?_; rintro _ _ _ ⟨px4, pb4, hpy4, hpn4, hpx4, rfl, rfl, rfl⟩; refine ⟨trivial, ?_⟩
     refine mv (.tuple _) rfl <| xtr (.string _) rfl rfl <| xtr (.bool _) rfl rfl <| ags rfl <| agb rfl <| jsr <| mvp rfl <| mvi rfl <| addi rfl rfl rfl (by omega) <| mvb rfl <| mvb rfl <| jsplit 64 rfl (fun h10 => ?_) (fun h10 => ?_)
     ·refine g_on rfl rfl rfl <| mvs rfl <| g_on rfl rfl rfl <| lenT (s := px4) rfl uy9 <| g_on rfl rfl rfl <| mvi rfl <| g_on rfl rfl rfl <| cmp _ rfl rfl rfl <| pkt (.bool _) rfl rfl <| mvb rfl <| jsplit 70 rfl (fun h11 => ?_) (fun h11 => ?_)
      ·replace h11 := of_decide_eq_true h11
       refine g_on rfl rfl rfl <| mvs rfl <| g_on rfl rfl rfl <| lenT (s := px4) rfl uy9 <| g_on rfl rfl rfl <| mvi rfl <| g_on rfl rfl rfl <| cmp _ rfl rfl rfl <| pkt (.bool _) rfl rfl <| cal (took_ct b s (p + 1) (e + 1) (decide ((px4.length : Int) ≤ (hi : Int))) (by omega)) [0] [] [] rfl rfl rfl (by kernel_rfl) impl_nil rfl ?_; rintro _ _ _ (⟨htk5, rfl, rfl, rfl⟩ | ⟨htk5, rfl, rfl, rfl⟩)
       ·replace htk5 := of_decide_eq_true htk5; refine ⟨trivial, ?_⟩
        refine jsr <| mvs rfl <| ags rfl <| jt <| c_ret ?_
        exact j_end (own0 := [[(b, .cells (cat [pt s, p1 (.int .i64 ((p : Nat) : Int)), p1 (.bool false)]) 137)]]) (ro0 := [tDb64 11, tIf 7 eu ev, tIf 8 ru rv]) (.inl rfl) rfl (hr1 Tryz.results67 (rvt (v := (.string _)) rfl)) [0] [] [_] [] [] _ rfl rfl (by kernel_rfl) rfl impl_nil (.inl ⟨px4, _, textR_ok (by assumption) ⟨by omega, by rw [← Nat.add_zero (p + 1), ← getD_drop]; assumption, by omega⟩ (by rw [HQI]; exact hpy4 (by assumption)) ⟨by omega, by omega⟩ |>.trans (by rw [HQE]; rfl), rfl, rfl, rfl⟩)
       ·replace htk5 := of_decide_eq_false htk5; refine ⟨trivial, ?_⟩
        refine jsr <| mvs rfl <| ags rfl <| jt <| c_ret ?_
        exact j_end (own0 := [[(b, .cells (cat [pt s, p1 (.int .i64 ((p : Nat) : Int)), p1 (.bool false)]) 137)]]) (ro0 := [tDb64 11, tIf 7 eu ev, tIf 8 ru rv]) (.inl rfl) rfl (hr1 Tryz.results67 (rvt (v := (.string _)) rfl)) [0] [] [_] [] [] _ rfl rfl (by kernel_rfl) rfl impl_nil (.inr ⟨px4, (p + 1), textR_bad (by assumption) (fun t ht hb => by rw [HQI] at ht; first | (rw [hpn4 (by assumption)] at ht; cases ht) | (rw [hpy4 (by assumption)] at ht; cases ht; omega)), by omega, rfl, rfl, rfl⟩)
      ·replace h11 := of_decide_eq_false h11
       refine g_off rfl rfl rfl rfl <| g_off rfl rfl rfl rfl <| g_off rfl rfl rfl rfl <| g_off rfl rfl rfl rfl <| pkf (.bool _) rfl rfl <| cal (took_f b s (p + 1) (e + 1) (by omega)) [0] [] [] rfl rfl rfl (by kernel_rfl) impl_nil rfl ?_; rintro _ _ _ ⟨rfl, rfl, rfl⟩; refine ⟨trivial, ?_⟩
       refine jsr <| mvs rfl <| ags rfl <| jt <| c_ret ?_
       exact j_end (own0 := [[(b, .cells (cat [pt s, p1 (.int .i64 ((p : Nat) : Int)), p1 (.bool false)]) 137)]]) (ro0 := [tDb64 11, tIf 7 eu ev, tIf 8 ru rv]) (.inl rfl) rfl (hr1 Tryz.results67 (rvt (v := (.string _)) rfl)) [0] [] [_] [] [] _ rfl rfl (by kernel_rfl) rfl impl_nil (.inr ⟨px4, (p + 1), textR_bad (by assumption) (fun t ht hb => by rw [HQI] at ht; first | (rw [hpn4 (by assumption)] at ht; cases ht) | (rw [hpy4 (by assumption)] at ht; cases ht; omega)), by omega, rfl, rfl, rfl⟩)
     ·refine g_off rfl rfl rfl rfl <| g_off rfl rfl rfl rfl <| g_off rfl rfl rfl rfl <| g_off rfl rfl rfl rfl <| pkf (.bool _) rfl rfl <| mvb rfl <| g_off rfl rfl rfl rfl <| g_off rfl rfl rfl rfl <| g_off rfl rfl rfl rfl <| g_off rfl rfl rfl rfl <| pkf (.bool _) rfl rfl <| cal (took_f b s (p + 1) (e + 1) (by omega)) [0] [] [] rfl rfl rfl (by kernel_rfl) impl_nil rfl ?_; rintro _ _ _ ⟨rfl, rfl, rfl⟩; refine ⟨trivial, ?_⟩
      refine jsr <| mvs rfl <| ags rfl <| jt <| c_ret ?_
      exact j_end (own0 := [[(b, .cells (cat [pt s, p1 (.int .i64 ((p : Nat) : Int)), p1 (.bool false)]) 137)]]) (ro0 := [tDb64 11, tIf 7 eu ev, tIf 8 ru rv]) (.inl rfl) rfl (hr1 Tryz.results67 (rvt (v := (.string _)) rfl)) [0] [] [_] [] [] _ rfl rfl (by kernel_rfl) rfl impl_nil (.inr ⟨px4, (p + 1), textR_bad (by assumption) (fun t ht hb => by rw [HQI] at ht; first | (rw [hpn4 (by assumption)] at ht; cases ht) | (rw [hpy4 (by assumption)] at ht; cases ht; omega)), by omega, rfl, rfl, rfl⟩)
 ·refine ⟨trivial, ?_⟩
  refine not_ rfl <| jt <| c_true rfl <| csr <| ags rfl <| jt <| c_ret ?_
  exact j_end (own0 := [[(b, .cells (cat [pt s, p1 (.int .i64 ((p : Nat) : Int)), p1 (.bool false)]) 137)]]) (ro0 := [tDb64 11, tIf 7 eu ev, tIf 8 ru rv]) (.inl rfl) rfl (hr1 Tryz.results67 (rvt (v := (.string _)) rfl)) [0] [] [_] [] [] _ rfl rfl (by kernel_rfl) rfl impl_nil (.inr ⟨[], _, textR_no (by assumption), by omega, rfl, rfl, rfl⟩)
end Go.Proofs.YtakbbpahfclgnaaGreatDoor
namespace Go.Proofs.YtakbbpahfclgnaaGreatDoor
open Go Go.Proofs Go.PW
open Go.PW.Enc (enc val)
theorem ty153 : Ty Tryz.prog 153 1 false := ⟨by kernel_rfl, by kernel_rfl⟩
theorem z153 : Zt Tryz.prog 153 ((pt (0 : UInt32)).v) := by unfold Zt; kernel_rfl
theorem by153 : (Tryz.prog.info? 153).map (·.bytes) = some 4 := by kernel_rfl
theorem marks_ct (b : Nat) (s : Str) (p : Nat) (hs : s.length ≤ 140737488351232) (hp : p ≤ s.length) (eu : TypeId) (ev : Value) (ru : TypeId) (rv : Value) : Ct Tryz.prog 68 [.pointer (some ⟨b, 0, none⟩)] [[(b, .cells (cat [pt s, p1 (.int .i64 ((p : Nat) : Int)), p1 (.bool false)]) 137)]] [tPow10 9, tIf 7 eu ev, tIf 8 ru rv] (fun v o r => (∃ (o' : Ow) (ms : List UInt32) (q : Nat), marksR s 102 [] 0 p = .inr (ms, q) ∧ (q ≤ s.length ∧ ms.length ≤ 101) ∧ o'.ok ms ∧ v = .slice o'.adr ms.length o'.cap ∧ o = [[(b, .cells (cat [pt s, p1 (.int .i64 ((q : Nat) : Int)), p1 (.bool false)]) 137)], o'.seg ms 153] ∧ r = []) ∨ (∃ (o' : Ow) (ms : List UInt32) (q : Nat), marksR s 102 [] 0 p = .inl q ∧ (q ≤ s.length ∧ ms.length ≤ 101) ∧ o'.ok ms ∧ v = .slice o'.adr ms.length o'.cap ∧ o = [[(b, .cells (cat [pt s, p1 (.int .i64 ((q : Nat) : Int)), p1 (.bool true)]) 137)], o'.seg ms 153] ∧ r = [])) := by
 refine ct_enter Tryz.func68 rfl Tryz.ntmps68 (by kernel_rfl) rfl fun w0 => ?_
 refine csr <| agl rfl <| jsr <| agl rfl <| jsr <| agi rfl <| jt <| c_seq <| c_block <| c_addE <| c_loop (σ := List UInt32 × Ow × UInt64 × Nat × Bool) (fun (ms, o, least, q, bad) => o.ok ms ∧ MK s p ms least.toNat q bad) (fun (ms, o, least, q, bad) => if bad = true then 0 else 102 - ms.length) (fun (ms, o, least, q, bad) => [(3, .slice o.adr ms.length o.cap), (4, .int .u64 (least.toNat : Int))]) (fun (ms, o, least, q, bad) => [[(b, .cells (cat [pt s, p1 (.int .i64 ((q : Nat) : Int)), p1 (.bool bad)]) 137)], o.seg ms 153]) (fun (ms, o, least, q, bad) => [tPow10 9, tIf 7 eu ev, tIf 8 ru rv]) [3, 4, 5, 6, 7, 8, 9, 10, 11, 12, 13, 14, 15, 16, 17, 18, 19, 20, 21, 22, 23, 24, 25, 26, 27, 28, 29, 30, 31, 32, 33, 34, 35, 36, 37, 38, 39, 40, 41, 42, 43, 44, 45, 46, 47, 48, 49, 50, 51, 52, 53, 54, 55, 56, 57, 58, 59, 60] ([], Ow.nil, 0, p, false) (⟨Ow.nil_ok, MK.start hp⟩) ⟨rfl, rfl, trivial⟩ rfl rfl ?_
 rintro ⟨ms, o, least, q, bad⟩ g1 hI1
 try dsimp only at hI1 ⊢
 have HQ := hI1.2.qle
 have HMS := hI1.2.len
 refine c_seq <| c_seq <| c_dr [_, _, _, _, _] [] [(0, 0), (1, 0), (2, 0), (3, 0), (4, 0), (5, 0), (6, 0), (7, 0), (8, 0), (9, 0), (10, 0), (11, 0), (12, 0), (13, 0), (14, 0), (15, 0), (16, 0), (17, 0), (18, 0), (19, 0), (20, 0), (21, 0)] follows (by kernel_rfl) calm_body (keepS [0, 1, 2, 3, 4] rfl) <| mvp rfl <| nlc rfl <| fad rfl uy137 rfl ty4.sz <| ldp 0 2 _ rfl rfl rfl rfl ty4 <| not_ rfl <| mvb rfl <| jsplit 12 rfl (fun h1 => ?_) (fun h1 => ?_)
 ·refine g_on rfl rfl rfl <| mvl rfl <| g_on rfl rfl rfl <| lenS rfl uy70 <| g_on rfl rfl rfl <| cmp _ rfl rfl rfl <| g_on rfl rfl rfl <| mvb rfl <| jsplit 16 rfl (fun h2 => ?_) (fun h2 => ?_)
  ·replace h2 := of_decide_eq_true h2
   refine g_off rfl rfl rfl rfl <| g_off rfl rfl rfl rfl <| g_off rfl rfl rfl rfl <| g_off rfl rfl rfl rfl <| g_off rfl rfl rfl rfl <| g_off rfl rfl rfl rfl <| g_off rfl rfl rfl rfl <| g_off rfl rfl rfl rfl <| g_off rfl rfl rfl rfl <| g_off rfl rfl rfl rfl <| g_on rfl rfl rfl <| pkt (.bool _) rfl rfl <| pkt (.bool _) rfl rfl <| jt <| c_true rfl <| c_skip <| e_then <| c_block <| c_seq ?_
   obtain rfl : bad = false := notT (by assumption)
   refine c_reg <| mvp rfl <| nlc rfl <| fad rfl uy137 rfl ty3.sz <| ldp 0 1 _ rfl rfl rfl rfl ty3 <| agi rfl <| jsr <| mvp rfl <| mvi rfl <| cal (number_ct b s q (by omega) (by omega) least (4294967295 : UInt64) eu ev ru rv) [0] [1] [_] rfl rfl rfl (by kernel_rfl) (impl_cons (impl_at 0 rfl) (impl_cons (impl_at 1 rfl) (impl_cons (impl_at 2 rfl) impl_nil))) rfl ?_; rintro _ _ _ (⟨nn1, nq1, hnm1, rfl, rfl, rfl⟩ | ⟨nn1, nq1, hnm1, hnm1b, rfl, rfl, rfl⟩)
   ·have hnm1b := numR_next hnm1; refine ⟨trivial, ?_⟩
    refine agi rfl <| jt <| c_seq <| csr <| mvp rfl <| nlc rfl <| fad rfl uy137 rfl ty4.sz <| ldp 1 2 _ rfl rfl rfl rfl ty4 <| not_ rfl <| mvb rfl <| g_on rfl rfl rfl <| mvl rfl <| g_on rfl rfl rfl <| lenS rfl uy70 <| g_on rfl rfl rfl <| cmp _ rfl rfl rfl <| pkt (.bool _) rfl rfl <| jt <| c_cond rfl (fun h3 => ?_) (fun h3 => ?_)
    ·replace h3 := of_decide_eq_true h3
     refine c_reg <| mvp rfl <| mvp rfl <| mvi rfl <| addi rfl rfl rfl (by omega) <| nlc rfl <| fad rfl uy137 rfl ty3.sz <| stp 1 1 _ (p1 (.int .i64 (((q : Nat) : Int) + 1))) rfl rfl rfl rfl rfl rfl ty3 ⟨trivial, ?_⟩
     refine nlc rfl <| fad rfl uy137 rfl ty4.sz <| stp 1 2 _ (p1 (.bool true)) rfl rfl rfl rfl rfl rfl ty4 ⟨trivial, ?_⟩
     refine jsr <| mvl rfl <| mvi rfl <| cvNU32 (n := nn1.toNat) rfl uy72 uy153 <| bsl (α := UInt32) ([(UInt32.ofNat nn1.toNat)]) uy70 ty153.sz rfl (by decide) z153 rfl fun b57 => ⟨trivial, ?_⟩
     refine app 0 o ms ([(UInt32.ofNat nn1.toNat)] : List UInt32) hI1.1 rfl ⟨rfl, rfl, rfl⟩ rfl rfl (gives_own (ys := ([(UInt32.ofNat nn1.toNat)] : List UInt32)) (pre := []) (post := []) 2 rfl (by simp) rfl) uy70 uy70 (.inl ⟨_, rfl⟩) ty153.sz by153 z153 rfl (by simp; omega) rfl fun o58_2 hk58_2 => ⟨trivial, ?_⟩
     refine agl rfl <| jr <| mvi rfl <| addU64 (a := nn1) (b := (1 : UInt64)) rfl rfl <| agi rfl <| jn <| e_in <| e_keep [1, 0] [2] [_, _] rfl (by kernel_rfl) ?_
     exact e_loop ((ms ++ ([(UInt32.ofNat nn1.toNat)] : List UInt32)), o58_2, (nn1 + (1 : UInt64)), (q + 1), true) (⟨hk58_2, by (try dsimp only); exact MK.full hI1.2 (by omega) hnm1 (by omega) (by omega)⟩) (mk_less hI1.2 rfl (by simp)) (⟨rfl, rfl, trivial⟩) rfl rfl rfl
    ·replace h3 := of_decide_eq_false h3
     refine c_skip <| e_then <| csr <| mvl rfl <| mvi rfl <| cvNU32 (n := nn1.toNat) rfl uy72 uy153 <| bsl (α := UInt32) ([(UInt32.ofNat nn1.toNat)]) uy70 ty153.sz rfl (by decide) z153 rfl fun b57 => ⟨trivial, ?_⟩
     refine app 0 o ms ([(UInt32.ofNat nn1.toNat)] : List UInt32) hI1.1 rfl ⟨rfl, rfl, rfl⟩ rfl rfl (gives_own (ys := ([(UInt32.ofNat nn1.toNat)] : List UInt32)) (pre := []) (post := []) 2 rfl (by simp) rfl) uy70 uy70 (.inl ⟨_, rfl⟩) ty153.sz by153 z153 rfl (by simp; omega) rfl fun o58_3 hk58_3 => ⟨trivial, ?_⟩
     refine agl rfl <| jr <| mvi rfl <| addU64 (a := nn1) (b := (1 : UInt64)) rfl rfl <| agi rfl <| jn <| e_in <| e_keep [1, 0] [2] [_, _] rfl (by kernel_rfl) ?_
     exact e_loop ((ms ++ ([(UInt32.ofNat nn1.toNat)] : List UInt32)), o58_3, (nn1 + (1 : UInt64)), nq1, false) (⟨hk58_3, by (try dsimp only); rw [u64_suc hnm1b.2.2.2]; exact MK.go hI1.2 (by omega) hnm1 (by omega) (by omega) hnm1b.2.2.2⟩) (mk_less hI1.2 rfl (by simp)) (⟨rfl, rfl, trivial⟩) rfl rfl rfl
   ·refine ⟨trivial, ?_⟩
    refine agi rfl <| jt <| c_seq <| csr <| mvp rfl <| nlc rfl <| fad rfl uy137 rfl ty4.sz <| ldp 1 2 _ rfl rfl rfl rfl ty4 <| not_ rfl <| mvb rfl <| g_off rfl rfl rfl rfl <| g_off rfl rfl rfl rfl <| g_off rfl rfl rfl rfl <| pkf (.bool _) rfl rfl <| jt <| c_false rfl <| c_skip <| e_then <| csr <| mvl rfl <| mvi rfl <| cvNU32 (n := nn1.toNat) rfl uy72 uy153 <| bsl (α := UInt32) ([(UInt32.ofNat nn1.toNat)]) uy70 ty153.sz rfl (by decide) z153 rfl fun b57 => ⟨trivial, ?_⟩
    refine app 0 o ms ([(UInt32.ofNat nn1.toNat)] : List UInt32) hI1.1 rfl ⟨rfl, rfl, rfl⟩ rfl rfl (gives_own (ys := ([(UInt32.ofNat nn1.toNat)] : List UInt32)) (pre := []) (post := []) 2 rfl (by simp) rfl) uy70 uy70 (.inl ⟨_, rfl⟩) ty153.sz by153 z153 rfl (by simp; omega) rfl fun o58_4 hk58_4 => ⟨trivial, ?_⟩
    refine agl rfl <| jr <| mvi rfl <| addU64 (a := nn1) (b := (1 : UInt64)) rfl rfl <| agi rfl <| jn <| e_in <| e_keep [1, 0] [2] [_, _] rfl (by kernel_rfl) ?_
    exact e_loop ((ms ++ ([(UInt32.ofNat nn1.toNat)] : List UInt32)), o58_4, (nn1 + (1 : UInt64)), nq1, true) (⟨hk58_4, by (try dsimp only); exact MK.fail hI1.2 (by omega) hnm1 (by omega)⟩) (mk_less hI1.2 rfl (by simp)) (⟨rfl, rfl, trivial⟩) rfl rfl rfl
  ·replace h2 := of_decide_eq_false h2
   refine g_on rfl rfl rfl <| mvp rfl <| g_on rfl rfl rfl <| nlc rfl <| g_on rfl rfl rfl <| fad rfl uy137 rfl ty3.sz <| g_on rfl rfl rfl <| ldp 0 1 _ rfl rfl rfl rfl ty3 <| g_on rfl rfl rfl <| mvp rfl <| g_on rfl rfl rfl <| nlc rfl <| g_on rfl rfl rfl <| fad rfl uy137 rfl ty9.sz <| g_on rfl rfl rfl <| ldp 0 0 _ rfl rfl rfl rfl ty9 <| g_on rfl rfl rfl <| lenT (s := s) rfl uy9 <| g_on rfl rfl rfl <| cmp _ rfl rfl rfl <| g_on rfl rfl rfl <| pkf (.bool _) rfl rfl <| pkt (.bool _) rfl rfl <| jt <| c_cond rfl (fun h4 => ?_) (fun h4 => ?_)
   ·replace h4 := of_decide_eq_true h4
    refine c_skip <| e_then <| c_block <| c_seq ?_
    obtain rfl : bad = false := notT (by assumption)
    refine c_reg <| mvp rfl <| nlc rfl <| fad rfl uy137 rfl ty3.sz <| ldp 0 1 _ rfl rfl rfl rfl ty3 <| agi rfl <| jsr <| mvp rfl <| mvi rfl <| cal (number_ct b s q (by omega) (by omega) least (4294967295 : UInt64) eu ev ru rv) [0] [1] [_] rfl rfl rfl (by kernel_rfl) (impl_cons (impl_at 0 rfl) (impl_cons (impl_at 1 rfl) (impl_cons (impl_at 2 rfl) impl_nil))) rfl ?_; rintro _ _ _ (⟨nn5, nq5, hnm5, rfl, rfl, rfl⟩ | ⟨nn5, nq5, hnm5, hnm5b, rfl, rfl, rfl⟩)
    ·have hnm5b := numR_next hnm5; refine ⟨trivial, ?_⟩
     refine agi rfl <| jt <| c_seq <| csr <| mvp rfl <| nlc rfl <| fad rfl uy137 rfl ty4.sz <| ldp 1 2 _ rfl rfl rfl rfl ty4 <| not_ rfl <| mvb rfl <| g_on rfl rfl rfl <| mvl rfl <| g_on rfl rfl rfl <| lenS rfl uy70 <| g_on rfl rfl rfl <| cmp _ rfl rfl rfl <| pkt (.bool _) rfl rfl <| jt <| c_cond rfl (fun h5 => ?_) (fun h5 => ?_)
     ·replace h5 := of_decide_eq_true h5
      refine c_reg <| mvp rfl <| mvp rfl <| mvi rfl <| addi rfl rfl rfl (by omega) <| nlc rfl <| fad rfl uy137 rfl ty3.sz <| stp 1 1 _ (p1 (.int .i64 (((q : Nat) : Int) + 1))) rfl rfl rfl rfl rfl rfl ty3 ⟨trivial, ?_⟩
      refine nlc rfl <| fad rfl uy137 rfl ty4.sz <| stp 1 2 _ (p1 (.bool true)) rfl rfl rfl rfl rfl rfl ty4 ⟨trivial, ?_⟩
      refine jsr <| mvl rfl <| mvi rfl <| cvNU32 (n := nn5.toNat) rfl uy72 uy153 <| bsl (α := UInt32) ([(UInt32.ofNat nn5.toNat)]) uy70 ty153.sz rfl (by decide) z153 rfl fun b57 => ⟨trivial, ?_⟩
      refine app 0 o ms ([(UInt32.ofNat nn5.toNat)] : List UInt32) hI1.1 rfl ⟨rfl, rfl, rfl⟩ rfl rfl (gives_own (ys := ([(UInt32.ofNat nn5.toNat)] : List UInt32)) (pre := []) (post := []) 2 rfl (by simp) rfl) uy70 uy70 (.inl ⟨_, rfl⟩) ty153.sz by153 z153 rfl (by simp; omega) rfl fun o58_6 hk58_6 => ⟨trivial, ?_⟩
      refine agl rfl <| jr <| mvi rfl <| addU64 (a := nn5) (b := (1 : UInt64)) rfl rfl <| agi rfl <| jn <| e_in <| e_keep [1, 0] [2] [_, _] rfl (by kernel_rfl) ?_
      exact e_loop ((ms ++ ([(UInt32.ofNat nn5.toNat)] : List UInt32)), o58_6, (nn5 + (1 : UInt64)), (q + 1), true) (⟨hk58_6, by (try dsimp only); exact MK.full hI1.2 (by omega) hnm5 (by omega) (by omega)⟩) (mk_less hI1.2 rfl (by simp)) (⟨rfl, rfl, trivial⟩) rfl rfl rfl
     ·replace h5 := of_decide_eq_false h5
      refine c_skip <| e_then <| csr <| mvl rfl <| mvi rfl <| cvNU32 (n := nn5.toNat) rfl uy72 uy153 <| bsl (α := UInt32) ([(UInt32.ofNat nn5.toNat)]) uy70 ty153.sz rfl (by decide) z153 rfl fun b57 => ⟨trivial, ?_⟩
      refine app 0 o ms ([(UInt32.ofNat nn5.toNat)] : List UInt32) hI1.1 rfl ⟨rfl, rfl, rfl⟩ rfl rfl (gives_own (ys := ([(UInt32.ofNat nn5.toNat)] : List UInt32)) (pre := []) (post := []) 2 rfl (by simp) rfl) uy70 uy70 (.inl ⟨_, rfl⟩) ty153.sz by153 z153 rfl (by simp; omega) rfl fun o58_7 hk58_7 => ⟨trivial, ?_⟩
      refine agl rfl <| jr <| mvi rfl <| addU64 (a := nn5) (b := (1 : UInt64)) rfl rfl <| agi rfl <| jn <| e_in <| e_keep [1, 0] [2] [_, _] rfl (by kernel_rfl) ?_
      exact e_loop ((ms ++ ([(UInt32.ofNat nn5.toNat)] : List UInt32)), o58_7, (nn5 + (1 : UInt64)), nq5, false) (⟨hk58_7, by (try dsimp only); rw [u64_suc hnm5b.2.2.2]; exact MK.go hI1.2 (by omega) hnm5 (by omega) (by omega) hnm5b.2.2.2⟩) (mk_less hI1.2 rfl (by simp)) (⟨rfl, rfl, trivial⟩) rfl rfl rfl
    ·refine ⟨trivial, ?_⟩
     refine agi rfl <| jt <| c_seq <| csr <| mvp rfl <| nlc rfl <| fad rfl uy137 rfl ty4.sz <| ldp 1 2 _ rfl rfl rfl rfl ty4 <| not_ rfl <| mvb rfl <| g_off rfl rfl rfl rfl <| g_off rfl rfl rfl rfl <| g_off rfl rfl rfl rfl <| pkf (.bool _) rfl rfl <| jt <| c_false rfl <| c_skip <| e_then <| csr <| mvl rfl <| mvi rfl <| cvNU32 (n := nn5.toNat) rfl uy72 uy153 <| bsl (α := UInt32) ([(UInt32.ofNat nn5.toNat)]) uy70 ty153.sz rfl (by decide) z153 rfl fun b57 => ⟨trivial, ?_⟩
     refine app 0 o ms ([(UInt32.ofNat nn5.toNat)] : List UInt32) hI1.1 rfl ⟨rfl, rfl, rfl⟩ rfl rfl (gives_own (ys := ([(UInt32.ofNat nn5.toNat)] : List UInt32)) (pre := []) (post := []) 2 rfl (by simp) rfl) uy70 uy70 (.inl ⟨_, rfl⟩) ty153.sz by153 z153 rfl (by simp; omega) rfl fun o58_8 hk58_8 => ⟨trivial, ?_⟩
     refine agl rfl <| jr <| mvi rfl <| addU64 (a := nn5) (b := (1 : UInt64)) rfl rfl <| agi rfl <| jn <| e_in <| e_keep [1, 0] [2] [_, _] rfl (by kernel_rfl) ?_
     exact e_loop ((ms ++ ([(UInt32.ofNat nn5.toNat)] : List UInt32)), o58_8, (nn5 + (1 : UInt64)), nq5, true) (⟨hk58_8, by (try dsimp only); exact MK.fail hI1.2 (by omega) hnm5 (by omega)⟩) (mk_less hI1.2 rfl (by simp)) (⟨rfl, rfl, trivial⟩) rfl rfl rfl
   ·replace h4 := of_decide_eq_false h4
    refine c_exit rfl <| e_then <| c_seq ?_
    obtain rfl : bad = false := notT (by assumption)
    refine c_reg <| mvl rfl <| agl rfl <| jt <| c_ret ?_
    exact j_end (own0 := [[(b, .cells (cat [pt s, p1 (.int .i64 ((p : Nat) : Int)), p1 (.bool false)]) 137)]]) (ro0 := [tPow10 9, tIf 7 eu ev, tIf 8 ru rv]) (.inl rfl) rfl (hr1 Tryz.results68 (rvt (v := (.slice _ _ _)) rfl)) [0, 1] [] [_, _] [] [] _ rfl rfl (by kernel_rfl) rfl impl_nil (.inl ⟨o, ms, q, (hI1.2.good rfl).2.2 (by omega), ⟨HQ, HMS⟩, hI1.1, rfl, rfl, rfl⟩)
 ·refine g_off rfl rfl rfl rfl <| g_off rfl rfl rfl rfl <| g_off rfl rfl rfl rfl <| g_off rfl rfl rfl rfl <| g_und rfl rfl rfl <| g_und rfl rfl rfl <| g_und rfl rfl rfl <| g_und rfl rfl rfl <| g_und rfl rfl rfl <| g_und rfl rfl rfl <| g_und rfl rfl rfl <| g_und rfl rfl rfl <| g_und rfl rfl rfl <| g_und rfl rfl rfl <| g_off rfl rfl rfl rfl <| pkf (.bool _) rfl rfl <| jt <| c_false rfl <| c_exit rfl <| e_then <| c_seq ?_
  obtain rfl : bad = true := notF (by assumption)
  refine c_reg <| mvl rfl <| agl rfl <| jt <| c_ret ?_
  exact j_end (own0 := [[(b, .cells (cat [pt s, p1 (.int .i64 ((p : Nat) : Int)), p1 (.bool false)]) 137)]]) (ro0 := [tPow10 9, tIf 7 eu ev, tIf 8 ru rv]) (.inl rfl) rfl (hr1 Tryz.results68 (rvt (v := (.slice _ _ _)) rfl)) [0, 1] [] [_, _] [] [] _ rfl rfl (by kernel_rfl) rfl impl_nil (.inr ⟨o, ms, q, hI1.2.bad rfl, ⟨HQ, HMS⟩, hI1.1, rfl, rfl, rfl⟩)
end Go.Proofs.YtakbbpahfclgnaaGreatDoor
namespace Go.PW
open Go
def parseR (s : Str) : PR (Con × List UInt32) :=
  if word s 0 = [116, 101, 120, 116] then bindR (textR s 0 2000 (word s 0).length) fun t q0 => endR s q0 (⟨1, t, ⟨0⟩, ⟨0⟩, 0, zarr⟩, [])
  else if word s 0 = [99, 97, 109, 101] then bindR (marksR s 102 [] 0 (word s 0).length) fun l q0 => endR s q0 (⟨2, [], ⟨0⟩, ⟨0⟩, 1, zarr⟩, l)
  else if word s 0 = [114, 101, 97, 100] then bindR (marksR s 102 [] 0 (word s 0).length) fun l q0 => endR s q0 (⟨2, [], ⟨0⟩, ⟨0⟩, 2, zarr⟩, l)
  else if word s 0 = [112, 108, 97, 99, 101] then bindR (degR s ⟨4636033603912859648⟩ (word s 0).length) fun a q0 => bindR (degR s ⟨4640537203540230144⟩ q0) fun b q1 => bindR (textR s 0 200 q1) fun t q2 => endR s q2 (⟨3, t, a, b, 0, zarr⟩, [])
  else if word s 0 = [114, 101, 97, 99, 116] then bindR (numR s 0 4294967295 (word s 0).length) fun n q0 => bindR (textR s 1 64 q0) fun t q1 => endR s q1 (⟨4, t, ⟨0⟩, ⟨0⟩, UInt64.ofNat n, zarr⟩, [])
  else if word s 0 = [116, 105, 109, 101, 114] then bindR (numR s 0 31536000 (word s 0).length) fun n q0 => endR s q0 (⟨5, [], ⟨0⟩, ⟨0⟩, UInt64.ofNat n, zarr⟩, [])
  else if word s 0 = [102, 105, 108, 101] then bindR (textR s 1 255 (word s 0).length) fun t q0 => bindR (numR s 0 1099511627776 q0) fun n q1 => bindR (hexR s 32 q1) fun w q2 => endR s q2 (⟨6, t, ⟨0⟩, ⟨0⟩, UInt64.ofNat n, mkKey (hexb w 32)⟩, [])
  else .inl 0
theorem parse_text_f0 {s : Str} {q : Nat} (hw : word s 0 = [116, 101, 120, 116]) (h : textR s 0 2000 (word s 0).length = .inl q) : parseR s = .inl q := by
  unfold parseR; rw [if_pos hw]; rw [bindR_l h]
theorem parse_text_e {s : Str} {t : Str} {q0 : Nat} (hw : word s 0 = [116, 101, 120, 116]) (h0 : textR s 0 2000 (word s 0).length = .inr (t, q0)) (he : q0 < s.length) : parseR s = .inl q0 := by
  unfold parseR; rw [if_pos hw]; rw [bindR_r h0]; (try dsimp only); rw [endR_l he]
theorem parse_text {s : Str} {t : Str} {q0 : Nat} (hw : word s 0 = [116, 101, 120, 116]) (h0 : textR s 0 2000 (word s 0).length = .inr (t, q0)) (he : ¬ q0 < s.length) : parseR s = .inr ((⟨1, t, ⟨0⟩, ⟨0⟩, 0, zarr⟩, []), q0) := by
  unfold parseR; rw [if_pos hw]; rw [bindR_r h0]; (try dsimp only); rw [endR_r he]
theorem parse_came_f0 {s : Str} {q : Nat} (hw : word s 0 = [99, 97, 109, 101]) (h : marksR s 102 [] 0 (word s 0).length = .inl q) : parseR s = .inl q := by
  unfold parseR; rw [if_neg (by rw [hw]; decide), if_pos hw]; rw [bindR_l h]
theorem parse_came_e {s : Str} {l : List UInt32} {q0 : Nat} (hw : word s 0 = [99, 97, 109, 101]) (h0 : marksR s 102 [] 0 (word s 0).length = .inr (l, q0)) (he : q0 < s.length) : parseR s = .inl q0 := by
  unfold parseR; rw [if_neg (by rw [hw]; decide), if_pos hw]; rw [bindR_r h0]; (try dsimp only); rw [endR_l he]
theorem parse_came {s : Str} {l : List UInt32} {q0 : Nat} (hw : word s 0 = [99, 97, 109, 101]) (h0 : marksR s 102 [] 0 (word s 0).length = .inr (l, q0)) (he : ¬ q0 < s.length) : parseR s = .inr ((⟨2, [], ⟨0⟩, ⟨0⟩, 1, zarr⟩, l), q0) := by
  unfold parseR; rw [if_neg (by rw [hw]; decide), if_pos hw]; rw [bindR_r h0]; (try dsimp only); rw [endR_r he]
theorem parse_read_f0 {s : Str} {q : Nat} (hw : word s 0 = [114, 101, 97, 100]) (h : marksR s 102 [] 0 (word s 0).length = .inl q) : parseR s = .inl q := by
  unfold parseR; rw [if_neg (by rw [hw]; decide), if_neg (by rw [hw]; decide), if_pos hw]; rw [bindR_l h]
theorem parse_read_e {s : Str} {l : List UInt32} {q0 : Nat} (hw : word s 0 = [114, 101, 97, 100]) (h0 : marksR s 102 [] 0 (word s 0).length = .inr (l, q0)) (he : q0 < s.length) : parseR s = .inl q0 := by
  unfold parseR; rw [if_neg (by rw [hw]; decide), if_neg (by rw [hw]; decide), if_pos hw]; rw [bindR_r h0]; (try dsimp only); rw [endR_l he]
theorem parse_read {s : Str} {l : List UInt32} {q0 : Nat} (hw : word s 0 = [114, 101, 97, 100]) (h0 : marksR s 102 [] 0 (word s 0).length = .inr (l, q0)) (he : ¬ q0 < s.length) : parseR s = .inr ((⟨2, [], ⟨0⟩, ⟨0⟩, 2, zarr⟩, l), q0) := by
  unfold parseR; rw [if_neg (by rw [hw]; decide), if_neg (by rw [hw]; decide), if_pos hw]; rw [bindR_r h0]; (try dsimp only); rw [endR_r he]
theorem parse_place_f0 {s : Str} {q : Nat} (hw : word s 0 = [112, 108, 97, 99, 101]) (h : degR s ⟨4636033603912859648⟩ (word s 0).length = .inl q) : parseR s = .inl q := by
  unfold parseR; rw [if_neg (by rw [hw]; decide), if_neg (by rw [hw]; decide), if_neg (by rw [hw]; decide), if_pos hw]; rw [bindR_l h]
theorem parse_place_f1 {s : Str} {a : F64} {q0 : Nat} {q : Nat} (hw : word s 0 = [112, 108, 97, 99, 101]) (h0 : degR s ⟨4636033603912859648⟩ (word s 0).length = .inr (a, q0)) (h : degR s ⟨4640537203540230144⟩ q0 = .inl q) : parseR s = .inl q := by
  unfold parseR; rw [if_neg (by rw [hw]; decide), if_neg (by rw [hw]; decide), if_neg (by rw [hw]; decide), if_pos hw]; rw [bindR_r h0]; (try dsimp only); rw [bindR_l h]
theorem parse_place_f2 {s : Str} {a : F64} {q0 : Nat} {b : F64} {q1 : Nat} {q : Nat} (hw : word s 0 = [112, 108, 97, 99, 101]) (h0 : degR s ⟨4636033603912859648⟩ (word s 0).length = .inr (a, q0)) (h1 : degR s ⟨4640537203540230144⟩ q0 = .inr (b, q1)) (h : textR s 0 200 q1 = .inl q) : parseR s = .inl q := by
  unfold parseR; rw [if_neg (by rw [hw]; decide), if_neg (by rw [hw]; decide), if_neg (by rw [hw]; decide), if_pos hw]; rw [bindR_r h0]; (try dsimp only); rw [bindR_r h1]; (try dsimp only); rw [bindR_l h]
theorem parse_place_e {s : Str} {a : F64} {q0 : Nat} {b : F64} {q1 : Nat} {t : Str} {q2 : Nat} (hw : word s 0 = [112, 108, 97, 99, 101]) (h0 : degR s ⟨4636033603912859648⟩ (word s 0).length = .inr (a, q0)) (h1 : degR s ⟨4640537203540230144⟩ q0 = .inr (b, q1)) (h2 : textR s 0 200 q1 = .inr (t, q2)) (he : q2 < s.length) : parseR s = .inl q2 := by
  unfold parseR; rw [if_neg (by rw [hw]; decide), if_neg (by rw [hw]; decide), if_neg (by rw [hw]; decide), if_pos hw]; rw [bindR_r h0]; (try dsimp only); rw [bindR_r h1]; (try dsimp only); rw [bindR_r h2]; (try dsimp only); rw [endR_l he]
theorem parse_place {s : Str} {a : F64} {q0 : Nat} {b : F64} {q1 : Nat} {t : Str} {q2 : Nat} (hw : word s 0 = [112, 108, 97, 99, 101]) (h0 : degR s ⟨4636033603912859648⟩ (word s 0).length = .inr (a, q0)) (h1 : degR s ⟨4640537203540230144⟩ q0 = .inr (b, q1)) (h2 : textR s 0 200 q1 = .inr (t, q2)) (he : ¬ q2 < s.length) : parseR s = .inr ((⟨3, t, a, b, 0, zarr⟩, []), q2) := by
  unfold parseR; rw [if_neg (by rw [hw]; decide), if_neg (by rw [hw]; decide), if_neg (by rw [hw]; decide), if_pos hw]; rw [bindR_r h0]; (try dsimp only); rw [bindR_r h1]; (try dsimp only); rw [bindR_r h2]; (try dsimp only); rw [endR_r he]
theorem parse_react_f0 {s : Str} {q : Nat} (hw : word s 0 = [114, 101, 97, 99, 116]) (h : numR s 0 4294967295 (word s 0).length = .inl q) : parseR s = .inl q := by
  unfold parseR; rw [if_neg (by rw [hw]; decide), if_neg (by rw [hw]; decide), if_neg (by rw [hw]; decide), if_neg (by rw [hw]; decide), if_pos hw]; rw [bindR_l h]
theorem parse_react_f1 {s : Str} {n : Nat} {q0 : Nat} {q : Nat} (hw : word s 0 = [114, 101, 97, 99, 116]) (h0 : numR s 0 4294967295 (word s 0).length = .inr (n, q0)) (h : textR s 1 64 q0 = .inl q) : parseR s = .inl q := by
  unfold parseR; rw [if_neg (by rw [hw]; decide), if_neg (by rw [hw]; decide), if_neg (by rw [hw]; decide), if_neg (by rw [hw]; decide), if_pos hw]; rw [bindR_r h0]; (try dsimp only); rw [bindR_l h]
theorem parse_react_e {s : Str} {n : Nat} {q0 : Nat} {t : Str} {q1 : Nat} (hw : word s 0 = [114, 101, 97, 99, 116]) (h0 : numR s 0 4294967295 (word s 0).length = .inr (n, q0)) (h1 : textR s 1 64 q0 = .inr (t, q1)) (he : q1 < s.length) : parseR s = .inl q1 := by
  unfold parseR; rw [if_neg (by rw [hw]; decide), if_neg (by rw [hw]; decide), if_neg (by rw [hw]; decide), if_neg (by rw [hw]; decide), if_pos hw]; rw [bindR_r h0]; (try dsimp only); rw [bindR_r h1]; (try dsimp only); rw [endR_l he]
theorem parse_react {s : Str} {n : Nat} {q0 : Nat} {t : Str} {q1 : Nat} (hw : word s 0 = [114, 101, 97, 99, 116]) (h0 : numR s 0 4294967295 (word s 0).length = .inr (n, q0)) (h1 : textR s 1 64 q0 = .inr (t, q1)) (he : ¬ q1 < s.length) : parseR s = .inr ((⟨4, t, ⟨0⟩, ⟨0⟩, UInt64.ofNat n, zarr⟩, []), q1) := by
  unfold parseR; rw [if_neg (by rw [hw]; decide), if_neg (by rw [hw]; decide), if_neg (by rw [hw]; decide), if_neg (by rw [hw]; decide), if_pos hw]; rw [bindR_r h0]; (try dsimp only); rw [bindR_r h1]; (try dsimp only); rw [endR_r he]
theorem parse_timer_f0 {s : Str} {q : Nat} (hw : word s 0 = [116, 105, 109, 101, 114]) (h : numR s 0 31536000 (word s 0).length = .inl q) : parseR s = .inl q := by
  unfold parseR; rw [if_neg (by rw [hw]; decide), if_neg (by rw [hw]; decide), if_neg (by rw [hw]; decide), if_neg (by rw [hw]; decide), if_neg (by rw [hw]; decide), if_pos hw]; rw [bindR_l h]
theorem parse_timer_e {s : Str} {n : Nat} {q0 : Nat} (hw : word s 0 = [116, 105, 109, 101, 114]) (h0 : numR s 0 31536000 (word s 0).length = .inr (n, q0)) (he : q0 < s.length) : parseR s = .inl q0 := by
  unfold parseR; rw [if_neg (by rw [hw]; decide), if_neg (by rw [hw]; decide), if_neg (by rw [hw]; decide), if_neg (by rw [hw]; decide), if_neg (by rw [hw]; decide), if_pos hw]; rw [bindR_r h0]; (try dsimp only); rw [endR_l he]
theorem parse_timer {s : Str} {n : Nat} {q0 : Nat} (hw : word s 0 = [116, 105, 109, 101, 114]) (h0 : numR s 0 31536000 (word s 0).length = .inr (n, q0)) (he : ¬ q0 < s.length) : parseR s = .inr ((⟨5, [], ⟨0⟩, ⟨0⟩, UInt64.ofNat n, zarr⟩, []), q0) := by
  unfold parseR; rw [if_neg (by rw [hw]; decide), if_neg (by rw [hw]; decide), if_neg (by rw [hw]; decide), if_neg (by rw [hw]; decide), if_neg (by rw [hw]; decide), if_pos hw]; rw [bindR_r h0]; (try dsimp only); rw [endR_r he]
theorem parse_file_f0 {s : Str} {q : Nat} (hw : word s 0 = [102, 105, 108, 101]) (h : textR s 1 255 (word s 0).length = .inl q) : parseR s = .inl q := by
  unfold parseR; rw [if_neg (by rw [hw]; decide), if_neg (by rw [hw]; decide), if_neg (by rw [hw]; decide), if_neg (by rw [hw]; decide), if_neg (by rw [hw]; decide), if_neg (by rw [hw]; decide), if_pos hw]; rw [bindR_l h]
theorem parse_file_f1 {s : Str} {t : Str} {q0 : Nat} {q : Nat} (hw : word s 0 = [102, 105, 108, 101]) (h0 : textR s 1 255 (word s 0).length = .inr (t, q0)) (h : numR s 0 1099511627776 q0 = .inl q) : parseR s = .inl q := by
  unfold parseR; rw [if_neg (by rw [hw]; decide), if_neg (by rw [hw]; decide), if_neg (by rw [hw]; decide), if_neg (by rw [hw]; decide), if_neg (by rw [hw]; decide), if_neg (by rw [hw]; decide), if_pos hw]; rw [bindR_r h0]; (try dsimp only); rw [bindR_l h]
theorem parse_file_f2 {s : Str} {t : Str} {q0 : Nat} {n : Nat} {q1 : Nat} {q : Nat} (hw : word s 0 = [102, 105, 108, 101]) (h0 : textR s 1 255 (word s 0).length = .inr (t, q0)) (h1 : numR s 0 1099511627776 q0 = .inr (n, q1)) (h : hexR s 32 q1 = .inl q) : parseR s = .inl q := by
  unfold parseR; rw [if_neg (by rw [hw]; decide), if_neg (by rw [hw]; decide), if_neg (by rw [hw]; decide), if_neg (by rw [hw]; decide), if_neg (by rw [hw]; decide), if_neg (by rw [hw]; decide), if_pos hw]; rw [bindR_r h0]; (try dsimp only); rw [bindR_r h1]; (try dsimp only); rw [bindR_l h]
theorem parse_file_e {s : Str} {t : Str} {q0 : Nat} {n : Nat} {q1 : Nat} {w : Str} {q2 : Nat} (hw : word s 0 = [102, 105, 108, 101]) (h0 : textR s 1 255 (word s 0).length = .inr (t, q0)) (h1 : numR s 0 1099511627776 q0 = .inr (n, q1)) (h2 : hexR s 32 q1 = .inr (w, q2)) (he : q2 < s.length) : parseR s = .inl q2 := by
  unfold parseR; rw [if_neg (by rw [hw]; decide), if_neg (by rw [hw]; decide), if_neg (by rw [hw]; decide), if_neg (by rw [hw]; decide), if_neg (by rw [hw]; decide), if_neg (by rw [hw]; decide), if_pos hw]; rw [bindR_r h0]; (try dsimp only); rw [bindR_r h1]; (try dsimp only); rw [bindR_r h2]; (try dsimp only); rw [endR_l he]
theorem parse_file {s : Str} {t : Str} {q0 : Nat} {n : Nat} {q1 : Nat} {w : Str} {q2 : Nat} (hw : word s 0 = [102, 105, 108, 101]) (h0 : textR s 1 255 (word s 0).length = .inr (t, q0)) (h1 : numR s 0 1099511627776 q0 = .inr (n, q1)) (h2 : hexR s 32 q1 = .inr (w, q2)) (he : ¬ q2 < s.length) : parseR s = .inr ((⟨6, t, ⟨0⟩, ⟨0⟩, UInt64.ofNat n, mkKey (hexb w 32)⟩, []), q2) := by
  unfold parseR; rw [if_neg (by rw [hw]; decide), if_neg (by rw [hw]; decide), if_neg (by rw [hw]; decide), if_neg (by rw [hw]; decide), if_neg (by rw [hw]; decide), if_neg (by rw [hw]; decide), if_pos hw]; rw [bindR_r h0]; (try dsimp only); rw [bindR_r h1]; (try dsimp only); rw [bindR_r h2]; (try dsimp only); rw [endR_r he]
theorem parse_none {s : Str} (h0 : ¬ word s 0 = [116, 101, 120, 116]) (h1 : ¬ word s 0 = [99, 97, 109, 101]) (h2 : ¬ word s 0 = [114, 101, 97, 100]) (h3 : ¬ word s 0 = [112, 108, 97, 99, 101]) (h4 : ¬ word s 0 = [114, 101, 97, 99, 116]) (h5 : ¬ word s 0 = [116, 105, 109, 101, 114]) (h6 : ¬ word s 0 = [102, 105, 108, 101]) : parseR s = .inl 0 := by
  unfold parseR; rw [if_neg h0, if_neg h1, if_neg h2, if_neg h3, if_neg h4, if_neg h5, if_neg h6]
theorem mkKey_hex (w : Str) : mkKey (hexb w 32) = ⟨hexb w 32, hrow_length _ _ _⟩ := mkKey_l _
end Go.PW
namespace Go.Proofs.YtakbbpahfclgnaaGreatDoor
open Go Go.Proofs Go.PW
open Go.PW.Enc (enc val)
theorem z76 : Zt Tryz.prog 76 (.agg ⟨cat [pt (0 : Int), pt ([] : Str), p1 (.slice none 0 0), pt (⟨0⟩ : F64), pt (⟨0⟩ : F64), pt (0 : UInt64), pt (zarr : (Arr UInt8 32))]⟩) := by unfold Zt; kernel_rfl
theorem lay137 : ∀ fs, Tryz.prog.underlying 137 = some (.struct fs) → Lay Tryz.prog fs [(0, 1), (1, 1), (2, 1)] := fun fs h => by rw [Tryz.underlying137] at h; cases h; unfold Lay; kernel_rfl
theorem lay76 : ∀ fs, Tryz.prog.underlying 76 = some (.struct fs) → Lay Tryz.prog fs [(0, 1), (1, 1), (2, 1), (3, 1), (4, 1), (5, 1), (6, 32)] := fun fs h => by rw [Tryz.underlying76] at h; cases h; unfold Lay; kernel_rfl
theorem ty76 : Ty Tryz.prog 76 38 true := ⟨by kernel_rfl, by kernel_rfl⟩
theorem ty70 : Ty Tryz.prog 70 1 false := ⟨by kernel_rfl, by kernel_rfl⟩
theorem ty71 : Ty Tryz.prog 71 1 false := ⟨by kernel_rfl, by kernel_rfl⟩
theorem ty74 : Ty Tryz.prog 74 32 true := ⟨by kernel_rfl, by kernel_rfl⟩
theorem Parse_ct (s : Str) (hs : s.length ≤ 140737488351232) (eu : TypeId) (ev : Value) (ru : TypeId) (rv : Value) : Ct Tryz.prog 42 [strV s] [] [tPow10 9, tDb64 11, tIf 7 eu ev, tIf 8 ru rv] (fun v w r => (∃ (c : Con) (ms : List UInt32) (o : Ow) (q : Nat), parseR s = .inr ((c, ms), q) ∧ ms.length ≤ 101 ∧ o.ok ms ∧ v = .tuple #[.agg ⟨cat [pt c.kind, pt c.text, p1 (.slice o.adr ms.length o.cap), pt c.lat, pt c.long, pt c.number, pt c.key]⟩, .int .i64 0, .int .i64 0] ∧ w = [o.seg ms 153] ∧ r = []) ∨ (∃ q : Nat, parseR s = .inl q ∧ v = .tuple #[.agg ⟨cat [pt (0 : Int), pt ([] : Str), p1 (.slice none 0 0), pt (⟨0⟩ : F64), pt (⟨0⟩ : F64), pt (0 : UInt64), pt (zarr : Key)]⟩, .int .i64 (q : Int), .int .i64 90] ∧ w = [] ∧ r = [])) := by
 have HW0 : (word s 0).length ≤ s.length := by have := word_length s 0; have := wlen_le s 0; omega
 refine ct_enter Tryz.func42 rfl Tryz.ntmps42 (by kernel_rfl) rfl fun w0 => ?_
 refine csr <| alo [pt (0 : Int), pt ([] : Str), p1 (.slice none 0 0), pt (⟨0⟩ : F64), pt (⟨0⟩ : F64), pt (0 : UInt64), pt (zarr : (Arr UInt8 32))] _ z76 rfl fun b2 => ⟨trivial, ?_⟩
 refine agi rfl <| agi rfl <| jsr <| mvs rfl <| bld [pt ([] : Str), pt (0 : Int), p1 (.bool false)] [(0, pt s)] _ uy137 (lay137 _ uy137) z137 rfl rfl rfl <| bxx [pt s, pt (0 : Int), p1 (.bool false)] _ rfl rfl fun b10 => ⟨trivial, ?_⟩
 refine agp rfl <| jsr <| mvp rfl <| cal (word_rct b10 s 0 false (by omega) (by omega)) [] [0, 1] [_, _] rfl rfl rfl (by kernel_rfl) (impl_cons (impl_at 5 rfl) impl_nil) rfl ?_; rintro _ _ _ ⟨rfl, rfl, rfl⟩; refine ⟨trivial, ?_⟩
 refine ags rfl <| jsr <| mvp rfl <| mvs rfl <| lenT (s := (word s 0)) rfl uy9 <| nlc rfl <| fad rfl uy137 rfl ty3.sz <| stp 1 1 _ (pt ((word s 0).length : Int)) rfl rfl rfl rfl rfl rfl ty3 ⟨trivial, ?_⟩
 refine jsr <| bld [pt (0 : Int), pt ([] : Str), p1 (.slice none 0 0), pt (⟨0⟩ : F64), pt (⟨0⟩ : F64), pt (0 : UInt64), pt (zarr : (Arr UInt8 32))] [] _ uy76 (lay76 _ uy76) z76 rfl rfl rfl <| alo [pt (0 : Int), pt ([] : Str), p1 (.slice none 0 0), pt (⟨0⟩ : F64), pt (⟨0⟩ : F64), pt (0 : UInt64), pt (zarr : (Arr UInt8 32))] _ z76 rfl fun b7 => ⟨trivial, ?_⟩
 refine stw 2 _ [pt (0 : Int), pt ([] : Str), p1 (.slice none 0 0), pt (⟨0⟩ : F64), pt (⟨0⟩ : F64), pt (0 : UInt64), pt (zarr : (Arr UInt8 32))] rfl rfl rfl rfl ty76 ⟨trivial, ?_⟩
 refine jt <| c_seq <| csr <| mvs rfl <| jt <| c_block <| csr <| scmp (a := (word s 0)) (b := ([116, 101, 120, 116] : Str)) _ rfl rfl uy9 rfl <| agb rfl <| jt <| c_cond rfl (fun h1 => ?_) (fun h1 => ?_)
 ·replace h1 := of_decide_eq_true h1
  refine c_reg <| mvp rfl <| cal (text_rct b10 s ((word s 0).length) (by omega) (by omega) 0 2000 (by omega) (by omega) eu ev ru rv) [1] [0, 2] [_, _] rfl rfl rfl (by kernel_rfl) (impl_cons (impl_at 1 rfl) (impl_cons (impl_at 2 rfl) (impl_cons (impl_at 3 rfl) impl_nil))) rfl ?_; rintro _ _ _ (⟨tt1, tq1, htx1, rfl, rfl, rfl⟩ | ⟨tt1, tq1, htx1, htx1b, rfl, rfl, rfl⟩)
  ·have htx1b := textR_next htx1; refine ⟨trivial, ?_⟩
   refine fad rfl uy76 rfl ty3.sz <| stp 1 0 _ (pt (1 : Int)) rfl rfl rfl rfl rfl rfl ty3 ⟨trivial, ?_⟩
   refine fad rfl uy76 rfl ty9.sz <| stp 1 1 _ (pt tt1) rfl rfl rfl rfl rfl rfl ty9 ⟨trivial, ?_⟩
   refine jn <| e_in <| e_then <| c_seq <| csr <| mvp rfl <| nlc rfl <| fad rfl uy137 rfl ty4.sz <| ldp 2 2 _ rfl rfl rfl rfl ty4 <| mvb rfl <| g_on rfl rfl rfl <| mvp rfl <| g_on rfl rfl rfl <| nlc rfl <| g_on rfl rfl rfl <| fad rfl uy137 rfl ty3.sz <| g_on rfl rfl rfl <| ldp 2 1 _ rfl rfl rfl rfl ty3 <| g_on rfl rfl rfl <| mvs rfl <| g_on rfl rfl rfl <| lenT (s := s) rfl uy9 <| g_on rfl rfl rfl <| cmp _ rfl rfl rfl <| pkf (.bool _) rfl rfl <| jt <| c_cond rfl (fun h2 => ?_) (fun h2 => ?_)
   ·replace h2 := of_decide_eq_true h2
    refine c_seq <| c_dr [_, _, _, _, _, _] [] [(0, 0), (1, 0), (2, 0), (3, 0), (4, 0), (5, 1), (6, 0), (7, 0)] follows (by kernel_rfl) calm_body (keepS [1, 2, 3, 4, 5, 6] rfl) <| bld [pt (0 : Int), pt ([] : Str), p1 (.slice none 0 0), pt (⟨0⟩ : F64), pt (⟨0⟩ : F64), pt (0 : UInt64), pt (zarr : (Arr UInt8 32))] [] _ uy76 (lay76 _ uy76) z76 rfl rfl rfl <| mvp rfl <| nlc rfl <| fad rfl uy137 rfl ty3.sz <| ldp 1 1 _ rfl rfl rfl rfl ty3 <| stw 0 _ [pt (0 : Int), pt ([] : Str), p1 (.slice none 0 0), pt (⟨0⟩ : F64), pt (⟨0⟩ : F64), pt (0 : UInt64), pt (zarr : (Arr UInt8 32))] rfl rfl rfl rfl ty76 ⟨keepI [1, 2, 3, 4, 5, 6] rfl, ?_⟩
    refine agi rfl <| agi rfl <| jt <| c_ret ?_
    exact j_d (own0 := []) (ro0 := [tPow10 9, tDb64 11, tIf 7 eu ev, tIf 8 ru rv]) (.inl rfl) rfl (hr3 Tryz.results42 (rvc (p := pa [pt (0 : Int), pt ([] : Str), p1 (.slice none 0 0), pt (⟨0⟩ : F64), pt (⟨0⟩ : F64), pt (0 : UInt64), pt (zarr : (Arr UInt8 32))]) 0 rfl rfl rfl ty76) (rvt (v := (.int _ _)) rfl) (rvt (v := (.int _ _)) rfl)) [0, 1, 2] [_, _, _] rfl (by kernel_rfl) rfl (.inr ⟨_, parse_text_e (by assumption) htx1 (by omega), rfl, rfl, rfl⟩)
   ·replace h2 := of_decide_eq_false h2
    refine c_skip <| e_then <| csr <| ldw 1 _ rfl rfl ty76 <| stw 0 _ [pt (1 : Int), pt tt1, p1 (.slice none 0 0), pt (⟨0⟩ : F64), pt (⟨0⟩ : F64), pt (0 : UInt64), pt (zarr : (Arr UInt8 32))] rfl rfl rfl rfl ty76 ⟨trivial, ?_⟩
    refine agi rfl <| agi rfl <| jt <| c_ret <| e_addE ?_
    exact j_end (own0 := []) (ro0 := [tPow10 9, tDb64 11, tIf 7 eu ev, tIf 8 ru rv]) (.inl rfl) rfl (hr3 Tryz.results42 (rvc (p := pa [pt (1 : Int), pt tt1, p1 (.slice none 0 0), pt (⟨0⟩ : F64), pt (⟨0⟩ : F64), pt (0 : UInt64), pt (zarr : (Arr UInt8 32))]) 0 rfl rfl rfl ty76) (rvt (v := (.int _ _)) rfl) (rvt (v := (.int _ _)) rfl)) [3] [0, 1, 2] [_] [_, _, _] [] _ rfl rfl (by kernel_rfl) rfl impl_nil (.inl ⟨(⟨(1 : Int), tt1, (⟨0⟩ : F64), (⟨0⟩ : F64), (0 : UInt64), (zarr : (Arr UInt8 32))⟩ : Con), [], Ow.nil, _, (by have h := parse_text (by assumption) htx1 (by omega); exact h), by simp, Ow.nil_ok, rfl, rfl, rfl⟩)
  ·refine ⟨trivial, ?_⟩
   refine fad rfl uy76 rfl ty3.sz <| stp 1 0 _ (pt (1 : Int)) rfl rfl rfl rfl rfl rfl ty3 ⟨trivial, ?_⟩
   refine fad rfl uy76 rfl ty9.sz <| stp 1 1 _ (pt tt1) rfl rfl rfl rfl rfl rfl ty9 ⟨trivial, ?_⟩
   refine jn <| e_in <| e_then <| c_seq <| csr <| mvp rfl <| nlc rfl <| fad rfl uy137 rfl ty4.sz <| ldp 2 2 _ rfl rfl rfl rfl ty4 <| mvb rfl <| g_off rfl rfl rfl rfl <| g_off rfl rfl rfl rfl <| g_off rfl rfl rfl rfl <| g_off rfl rfl rfl rfl <| g_off rfl rfl rfl rfl <| g_off rfl rfl rfl rfl <| g_off rfl rfl rfl rfl <| pkt (.bool _) rfl rfl <| jt <| c_true rfl <| c_seq <| c_dr [_, _, _, _, _, _] [] [(0, 0), (1, 0), (2, 0), (3, 0), (4, 0), (5, 1), (6, 0), (7, 0)] follows (by kernel_rfl) calm_body (keepS [1, 2, 3, 4, 5, 6] rfl) <| bld [pt (0 : Int), pt ([] : Str), p1 (.slice none 0 0), pt (⟨0⟩ : F64), pt (⟨0⟩ : F64), pt (0 : UInt64), pt (zarr : (Arr UInt8 32))] [] _ uy76 (lay76 _ uy76) z76 rfl rfl rfl <| mvp rfl <| nlc rfl <| fad rfl uy137 rfl ty3.sz <| ldp 1 1 _ rfl rfl rfl rfl ty3 <| stw 0 _ [pt (0 : Int), pt ([] : Str), p1 (.slice none 0 0), pt (⟨0⟩ : F64), pt (⟨0⟩ : F64), pt (0 : UInt64), pt (zarr : (Arr UInt8 32))] rfl rfl rfl rfl ty76 ⟨keepI [1, 2, 3, 4, 5, 6] rfl, ?_⟩
   refine agi rfl <| agi rfl <| jt <| c_ret ?_
   exact j_d (own0 := []) (ro0 := [tPow10 9, tDb64 11, tIf 7 eu ev, tIf 8 ru rv]) (.inl rfl) rfl (hr3 Tryz.results42 (rvc (p := pa [pt (0 : Int), pt ([] : Str), p1 (.slice none 0 0), pt (⟨0⟩ : F64), pt (⟨0⟩ : F64), pt (0 : UInt64), pt (zarr : (Arr UInt8 32))]) 0 rfl rfl rfl ty76) (rvt (v := (.int _ _)) rfl) (rvt (v := (.int _ _)) rfl)) [0, 1, 2] [_, _, _] rfl (by kernel_rfl) rfl (.inr ⟨_, parse_text_f0 (by assumption) htx1, rfl, rfl, rfl⟩)
 ·replace h1 := of_decide_eq_false h1
  refine csr <| scmp (a := (word s 0)) (b := ([99, 97, 109, 101] : Str)) _ rfl rfl uy9 rfl <| agb rfl <| jt <| c_cond rfl (fun h3 => ?_) (fun h3 => ?_)
  ·replace h3 := of_decide_eq_true h3
   refine c_reg <| mvp rfl <| cal (marks_ct b10 s ((word s 0).length) (by omega) (by omega) eu ev ru rv) [1] [0, 2] [_, _] rfl rfl rfl (by kernel_rfl) (impl_cons (impl_at 0 rfl) (impl_cons (impl_at 2 rfl) (impl_cons (impl_at 3 rfl) impl_nil))) rfl ?_; rintro _ _ _ (⟨mo2, mm2, mq2, hmk2, hmk2b, hmk2o, rfl, rfl, rfl⟩ | ⟨mo2, mm2, mq2, hmk2, hmk2b, hmk2o, rfl, rfl, rfl⟩)
   ·refine ⟨trivial, ?_⟩
    refine fad rfl uy76 rfl ty3.sz <| stp 1 0 _ (pt (2 : Int)) rfl rfl rfl rfl rfl rfl ty3 ⟨trivial, ?_⟩
    refine fad rfl uy76 rfl ty72.sz <| stp 1 5 _ (pt (1 : UInt64)) rfl rfl rfl rfl rfl rfl ty72 ⟨trivial, ?_⟩
    refine fad rfl uy76 rfl ty70.sz <| stp 1 2 _ (p1 (.slice mo2.adr mm2.length mo2.cap)) rfl rfl rfl rfl rfl rfl ty70 ⟨trivial, ?_⟩
    refine jn <| e_in <| e_then <| c_seq <| csr <| mvp rfl <| nlc rfl <| fad rfl uy137 rfl ty4.sz <| ldp 2 2 _ rfl rfl rfl rfl ty4 <| mvb rfl <| g_on rfl rfl rfl <| mvp rfl <| g_on rfl rfl rfl <| nlc rfl <| g_on rfl rfl rfl <| fad rfl uy137 rfl ty3.sz <| g_on rfl rfl rfl <| ldp 2 1 _ rfl rfl rfl rfl ty3 <| g_on rfl rfl rfl <| mvs rfl <| g_on rfl rfl rfl <| lenT (s := s) rfl uy9 <| g_on rfl rfl rfl <| cmp _ rfl rfl rfl <| pkf (.bool _) rfl rfl <| jt <| c_cond rfl (fun h4 => ?_) (fun h4 => ?_)
    ·replace h4 := of_decide_eq_true h4
     refine c_seq <| c_dr [_, _, _, _, _, _, _] [] [(0, 0), (1, 0), (2, 0), (3, 0), (4, 0), (5, 1), (6, 0), (7, 0)] follows (by kernel_rfl) calm_body (keepS [1, 2, 3, 4, 5, 6, 7] rfl) <| bld [pt (0 : Int), pt ([] : Str), p1 (.slice none 0 0), pt (⟨0⟩ : F64), pt (⟨0⟩ : F64), pt (0 : UInt64), pt (zarr : (Arr UInt8 32))] [] _ uy76 (lay76 _ uy76) z76 rfl rfl rfl <| mvp rfl <| nlc rfl <| fad rfl uy137 rfl ty3.sz <| ldp 1 1 _ rfl rfl rfl rfl ty3 <| stw 0 _ [pt (0 : Int), pt ([] : Str), p1 (.slice none 0 0), pt (⟨0⟩ : F64), pt (⟨0⟩ : F64), pt (0 : UInt64), pt (zarr : (Arr UInt8 32))] rfl rfl rfl rfl ty76 ⟨keepI [1, 2, 3, 4, 5, 6, 7] rfl, ?_⟩
     refine agi rfl <| agi rfl <| jt <| c_ret ?_
     exact j_d (own0 := []) (ro0 := [tPow10 9, tDb64 11, tIf 7 eu ev, tIf 8 ru rv]) (.inl rfl) rfl (hr3 Tryz.results42 (rvc (p := pa [pt (0 : Int), pt ([] : Str), p1 (.slice none 0 0), pt (⟨0⟩ : F64), pt (⟨0⟩ : F64), pt (0 : UInt64), pt (zarr : (Arr UInt8 32))]) 0 rfl rfl rfl ty76) (rvt (v := (.int _ _)) rfl) (rvt (v := (.int _ _)) rfl)) [0, 1, 2, 3] [_, _, _, _] rfl (by kernel_rfl) rfl (.inr ⟨_, parse_came_e (by assumption) hmk2 (by omega), rfl, rfl, rfl⟩)
    ·replace h4 := of_decide_eq_false h4
     refine c_skip <| e_then <| csr <| ldw 1 _ rfl rfl ty76 <| stw 0 _ [pt (2 : Int), pt ([] : Str), p1 (.slice mo2.adr mm2.length mo2.cap), pt (⟨0⟩ : F64), pt (⟨0⟩ : F64), pt (1 : UInt64), pt (zarr : (Arr UInt8 32))] rfl rfl rfl rfl ty76 ⟨trivial, ?_⟩
     refine agi rfl <| agi rfl <| jt <| c_ret ?_
     exact j_end (own0 := []) (ro0 := [tPow10 9, tDb64 11, tIf 7 eu ev, tIf 8 ru rv]) (.inl rfl) rfl (hr3 Tryz.results42 (rvc (p := pa [pt (2 : Int), pt ([] : Str), p1 (.slice mo2.adr mm2.length mo2.cap), pt (⟨0⟩ : F64), pt (⟨0⟩ : F64), pt (1 : UInt64), pt (zarr : (Arr UInt8 32))]) 0 rfl rfl rfl ty76) (rvt (v := (.int _ _)) rfl) (rvt (v := (.int _ _)) rfl)) [3] [0, 1, 2] [_] [_, _, _] [] _ rfl rfl (by kernel_rfl) rfl impl_nil (.inl ⟨(⟨(2 : Int), ([] : Str), (⟨0⟩ : F64), (⟨0⟩ : F64), (1 : UInt64), (zarr : (Arr UInt8 32))⟩ : Con), mm2, mo2, _, (by have h := parse_came (by assumption) hmk2 (by omega); exact h), by omega, hmk2o, rfl, rfl, rfl⟩)
   ·refine ⟨trivial, ?_⟩
    refine fad rfl uy76 rfl ty3.sz <| stp 1 0 _ (pt (2 : Int)) rfl rfl rfl rfl rfl rfl ty3 ⟨trivial, ?_⟩
    refine fad rfl uy76 rfl ty72.sz <| stp 1 5 _ (pt (1 : UInt64)) rfl rfl rfl rfl rfl rfl ty72 ⟨trivial, ?_⟩
    refine fad rfl uy76 rfl ty70.sz <| stp 1 2 _ (p1 (.slice mo2.adr mm2.length mo2.cap)) rfl rfl rfl rfl rfl rfl ty70 ⟨trivial, ?_⟩
    refine jn <| e_in <| e_then <| c_seq <| csr <| mvp rfl <| nlc rfl <| fad rfl uy137 rfl ty4.sz <| ldp 2 2 _ rfl rfl rfl rfl ty4 <| mvb rfl <| g_off rfl rfl rfl rfl <| g_off rfl rfl rfl rfl <| g_off rfl rfl rfl rfl <| g_off rfl rfl rfl rfl <| g_off rfl rfl rfl rfl <| g_off rfl rfl rfl rfl <| g_off rfl rfl rfl rfl <| pkt (.bool _) rfl rfl <| jt <| c_true rfl <| c_seq <| c_dr [_, _, _, _, _, _, _] [] [(0, 0), (1, 0), (2, 0), (3, 0), (4, 0), (5, 1), (6, 0), (7, 0)] follows (by kernel_rfl) calm_body (keepS [1, 2, 3, 4, 5, 6, 7] rfl) <| bld [pt (0 : Int), pt ([] : Str), p1 (.slice none 0 0), pt (⟨0⟩ : F64), pt (⟨0⟩ : F64), pt (0 : UInt64), pt (zarr : (Arr UInt8 32))] [] _ uy76 (lay76 _ uy76) z76 rfl rfl rfl <| mvp rfl <| nlc rfl <| fad rfl uy137 rfl ty3.sz <| ldp 1 1 _ rfl rfl rfl rfl ty3 <| stw 0 _ [pt (0 : Int), pt ([] : Str), p1 (.slice none 0 0), pt (⟨0⟩ : F64), pt (⟨0⟩ : F64), pt (0 : UInt64), pt (zarr : (Arr UInt8 32))] rfl rfl rfl rfl ty76 ⟨keepI [1, 2, 3, 4, 5, 6, 7] rfl, ?_⟩
    refine agi rfl <| agi rfl <| jt <| c_ret ?_
    exact j_d (own0 := []) (ro0 := [tPow10 9, tDb64 11, tIf 7 eu ev, tIf 8 ru rv]) (.inl rfl) rfl (hr3 Tryz.results42 (rvc (p := pa [pt (0 : Int), pt ([] : Str), p1 (.slice none 0 0), pt (⟨0⟩ : F64), pt (⟨0⟩ : F64), pt (0 : UInt64), pt (zarr : (Arr UInt8 32))]) 0 rfl rfl rfl ty76) (rvt (v := (.int _ _)) rfl) (rvt (v := (.int _ _)) rfl)) [0, 1, 2, 3] [_, _, _, _] rfl (by kernel_rfl) rfl (.inr ⟨_, parse_came_f0 (by assumption) hmk2, rfl, rfl, rfl⟩)
  ·replace h3 := of_decide_eq_false h3
   refine csr <| scmp (a := (word s 0)) (b := ([114, 101, 97, 100] : Str)) _ rfl rfl uy9 rfl <| agb rfl <| jt <| c_cond rfl (fun h5 => ?_) (fun h5 => ?_)
   ·replace h5 := of_decide_eq_true h5
    refine c_reg <| mvp rfl <| cal (marks_ct b10 s ((word s 0).length) (by omega) (by omega) eu ev ru rv) [1] [0, 2] [_, _] rfl rfl rfl (by kernel_rfl) (impl_cons (impl_at 0 rfl) (impl_cons (impl_at 2 rfl) (impl_cons (impl_at 3 rfl) impl_nil))) rfl ?_; rintro _ _ _ (⟨mo3, mm3, mq3, hmk3, hmk3b, hmk3o, rfl, rfl, rfl⟩ | ⟨mo3, mm3, mq3, hmk3, hmk3b, hmk3o, rfl, rfl, rfl⟩)
    ·refine ⟨trivial, ?_⟩
     refine fad rfl uy76 rfl ty3.sz <| stp 1 0 _ (pt (2 : Int)) rfl rfl rfl rfl rfl rfl ty3 ⟨trivial, ?_⟩
     refine fad rfl uy76 rfl ty72.sz <| stp 1 5 _ (pt (2 : UInt64)) rfl rfl rfl rfl rfl rfl ty72 ⟨trivial, ?_⟩
     refine fad rfl uy76 rfl ty70.sz <| stp 1 2 _ (p1 (.slice mo3.adr mm3.length mo3.cap)) rfl rfl rfl rfl rfl rfl ty70 ⟨trivial, ?_⟩
     refine jn <| e_in <| e_then <| c_seq <| csr <| mvp rfl <| nlc rfl <| fad rfl uy137 rfl ty4.sz <| ldp 2 2 _ rfl rfl rfl rfl ty4 <| mvb rfl <| g_on rfl rfl rfl <| mvp rfl <| g_on rfl rfl rfl <| nlc rfl <| g_on rfl rfl rfl <| fad rfl uy137 rfl ty3.sz <| g_on rfl rfl rfl <| ldp 2 1 _ rfl rfl rfl rfl ty3 <| g_on rfl rfl rfl <| mvs rfl <| g_on rfl rfl rfl <| lenT (s := s) rfl uy9 <| g_on rfl rfl rfl <| cmp _ rfl rfl rfl <| pkf (.bool _) rfl rfl <| jt <| c_cond rfl (fun h6 => ?_) (fun h6 => ?_)
     ·replace h6 := of_decide_eq_true h6
      refine c_seq <| c_dr [_, _, _, _, _, _, _] [] [(0, 0), (1, 0), (2, 0), (3, 0), (4, 0), (5, 1), (6, 0), (7, 0)] follows (by kernel_rfl) calm_body (keepS [1, 2, 3, 4, 5, 6, 7] rfl) <| bld [pt (0 : Int), pt ([] : Str), p1 (.slice none 0 0), pt (⟨0⟩ : F64), pt (⟨0⟩ : F64), pt (0 : UInt64), pt (zarr : (Arr UInt8 32))] [] _ uy76 (lay76 _ uy76) z76 rfl rfl rfl <| mvp rfl <| nlc rfl <| fad rfl uy137 rfl ty3.sz <| ldp 1 1 _ rfl rfl rfl rfl ty3 <| stw 0 _ [pt (0 : Int), pt ([] : Str), p1 (.slice none 0 0), pt (⟨0⟩ : F64), pt (⟨0⟩ : F64), pt (0 : UInt64), pt (zarr : (Arr UInt8 32))] rfl rfl rfl rfl ty76 ⟨keepI [1, 2, 3, 4, 5, 6, 7] rfl, ?_⟩
      refine agi rfl <| agi rfl <| jt <| c_ret ?_
      exact j_d (own0 := []) (ro0 := [tPow10 9, tDb64 11, tIf 7 eu ev, tIf 8 ru rv]) (.inl rfl) rfl (hr3 Tryz.results42 (rvc (p := pa [pt (0 : Int), pt ([] : Str), p1 (.slice none 0 0), pt (⟨0⟩ : F64), pt (⟨0⟩ : F64), pt (0 : UInt64), pt (zarr : (Arr UInt8 32))]) 0 rfl rfl rfl ty76) (rvt (v := (.int _ _)) rfl) (rvt (v := (.int _ _)) rfl)) [0, 1, 2, 3] [_, _, _, _] rfl (by kernel_rfl) rfl (.inr ⟨_, parse_read_e (by assumption) hmk3 (by omega), rfl, rfl, rfl⟩)
     ·replace h6 := of_decide_eq_false h6
      refine c_skip <| e_then <| csr <| ldw 1 _ rfl rfl ty76 <| stw 0 _ [pt (2 : Int), pt ([] : Str), p1 (.slice mo3.adr mm3.length mo3.cap), pt (⟨0⟩ : F64), pt (⟨0⟩ : F64), pt (2 : UInt64), pt (zarr : (Arr UInt8 32))] rfl rfl rfl rfl ty76 ⟨trivial, ?_⟩
      refine agi rfl <| agi rfl <| jt <| c_ret ?_
      exact j_end (own0 := []) (ro0 := [tPow10 9, tDb64 11, tIf 7 eu ev, tIf 8 ru rv]) (.inl rfl) rfl (hr3 Tryz.results42 (rvc (p := pa [pt (2 : Int), pt ([] : Str), p1 (.slice mo3.adr mm3.length mo3.cap), pt (⟨0⟩ : F64), pt (⟨0⟩ : F64), pt (2 : UInt64), pt (zarr : (Arr UInt8 32))]) 0 rfl rfl rfl ty76) (rvt (v := (.int _ _)) rfl) (rvt (v := (.int _ _)) rfl)) [3] [0, 1, 2] [_] [_, _, _] [] _ rfl rfl (by kernel_rfl) rfl impl_nil (.inl ⟨(⟨(2 : Int), ([] : Str), (⟨0⟩ : F64), (⟨0⟩ : F64), (2 : UInt64), (zarr : (Arr UInt8 32))⟩ : Con), mm3, mo3, _, (by have h := parse_read (by assumption) hmk3 (by omega); exact h), by omega, hmk3o, rfl, rfl, rfl⟩)
    ·refine ⟨trivial, ?_⟩
     refine fad rfl uy76 rfl ty3.sz <| stp 1 0 _ (pt (2 : Int)) rfl rfl rfl rfl rfl rfl ty3 ⟨trivial, ?_⟩
     refine fad rfl uy76 rfl ty72.sz <| stp 1 5 _ (pt (2 : UInt64)) rfl rfl rfl rfl rfl rfl ty72 ⟨trivial, ?_⟩
     refine fad rfl uy76 rfl ty70.sz <| stp 1 2 _ (p1 (.slice mo3.adr mm3.length mo3.cap)) rfl rfl rfl rfl rfl rfl ty70 ⟨trivial, ?_⟩
     refine jn <| e_in <| e_then <| c_seq <| csr <| mvp rfl <| nlc rfl <| fad rfl uy137 rfl ty4.sz <| ldp 2 2 _ rfl rfl rfl rfl ty4 <| mvb rfl <| g_off rfl rfl rfl rfl <| g_off rfl rfl rfl rfl <| g_off rfl rfl rfl rfl <| g_off rfl rfl rfl rfl <| g_off rfl rfl rfl rfl <| g_off rfl rfl rfl rfl <| g_off rfl rfl rfl rfl <| pkt (.bool _) rfl rfl <| jt <| c_true rfl <| c_seq <| c_dr [_, _, _, _, _, _, _] [] [(0, 0), (1, 0), (2, 0), (3, 0), (4, 0), (5, 1), (6, 0), (7, 0)] follows (by kernel_rfl) calm_body (keepS [1, 2, 3, 4, 5, 6, 7] rfl) <| bld [pt (0 : Int), pt ([] : Str), p1 (.slice none 0 0), pt (⟨0⟩ : F64), pt (⟨0⟩ : F64), pt (0 : UInt64), pt (zarr : (Arr UInt8 32))] [] _ uy76 (lay76 _ uy76) z76 rfl rfl rfl <| mvp rfl <| nlc rfl <| fad rfl uy137 rfl ty3.sz <| ldp 1 1 _ rfl rfl rfl rfl ty3 <| stw 0 _ [pt (0 : Int), pt ([] : Str), p1 (.slice none 0 0), pt (⟨0⟩ : F64), pt (⟨0⟩ : F64), pt (0 : UInt64), pt (zarr : (Arr UInt8 32))] rfl rfl rfl rfl ty76 ⟨keepI [1, 2, 3, 4, 5, 6, 7] rfl, ?_⟩
     refine agi rfl <| agi rfl <| jt <| c_ret ?_
     exact j_d (own0 := []) (ro0 := [tPow10 9, tDb64 11, tIf 7 eu ev, tIf 8 ru rv]) (.inl rfl) rfl (hr3 Tryz.results42 (rvc (p := pa [pt (0 : Int), pt ([] : Str), p1 (.slice none 0 0), pt (⟨0⟩ : F64), pt (⟨0⟩ : F64), pt (0 : UInt64), pt (zarr : (Arr UInt8 32))]) 0 rfl rfl rfl ty76) (rvt (v := (.int _ _)) rfl) (rvt (v := (.int _ _)) rfl)) [0, 1, 2, 3] [_, _, _, _] rfl (by kernel_rfl) rfl (.inr ⟨_, parse_read_f0 (by assumption) hmk3, rfl, rfl, rfl⟩)
   ·replace h5 := of_decide_eq_false h5
    refine csr <| scmp (a := (word s 0)) (b := ([112, 108, 97, 99, 101] : Str)) _ rfl rfl uy9 rfl <| agb rfl <| jt <| c_cond rfl (fun h7 => ?_) (fun h7 => ?_)
    ·replace h7 := of_decide_eq_true h7
     refine csr <| mvp rfl <| cal (degrees_ct b10 s ((word s 0).length) (by omega) (by omega) (⟨4636033603912859648⟩ : F64)) [1] [0, 2] [_, _] rfl rfl rfl (by kernel_rfl) impl_nil rfl ?_; rintro _ _ _ (⟨df4, dq4, hdg4, rfl, rfl, rfl⟩ | ⟨df4, dq4, hdg4, hdg4b, rfl, rfl, rfl⟩)
     ·have hdg4b := degR_next hdg4; refine ⟨trivial, ?_⟩
      refine fad rfl uy76 rfl ty3.sz <| stp 1 0 _ (pt (3 : Int)) rfl rfl rfl rfl rfl rfl ty3 ⟨trivial, ?_⟩
      refine fad rfl uy76 rfl ty71.sz <| stp 1 3 _ (pt df4) rfl rfl rfl rfl rfl rfl ty71 ⟨trivial, ?_⟩
      refine jsr <| mvp rfl <| cal (degrees_ct b10 s dq4 (by omega) (by omega) (⟨4640537203540230144⟩ : F64)) [2] [0, 1] [_, _] rfl rfl rfl (by kernel_rfl) impl_nil rfl ?_; rintro _ _ _ (⟨df5, dq5, hdg5, rfl, rfl, rfl⟩ | ⟨df5, dq5, hdg5, hdg5b, rfl, rfl, rfl⟩)
      ·have hdg5b := degR_next hdg5; refine ⟨trivial, ?_⟩
       refine fad rfl uy76 rfl ty71.sz <| stp 1 4 _ (pt df5) rfl rfl rfl rfl rfl rfl ty71 ⟨trivial, ?_⟩
       refine jr <| mvp rfl <| cal (text_rct b10 s dq5 (by omega) (by omega) 0 200 (by omega) (by omega) eu ev ru rv) [2] [0, 1] [_, _] rfl rfl rfl (by kernel_rfl) (impl_cons (impl_at 1 rfl) (impl_cons (impl_at 2 rfl) (impl_cons (impl_at 3 rfl) impl_nil))) rfl ?_; rintro _ _ _ (⟨tt6, tq6, htx6, rfl, rfl, rfl⟩ | ⟨tt6, tq6, htx6, htx6b, rfl, rfl, rfl⟩)
       ·have htx6b := textR_next htx6; refine ⟨trivial, ?_⟩
        refine fad rfl uy76 rfl ty9.sz <| stp 1 1 _ (pt tt6) rfl rfl rfl rfl rfl rfl ty9 ⟨trivial, ?_⟩
        refine jn <| e_in <| e_then <| c_seq <| csr <| mvp rfl <| nlc rfl <| fad rfl uy137 rfl ty4.sz <| ldp 2 2 _ rfl rfl rfl rfl ty4 <| mvb rfl <| g_on rfl rfl rfl <| mvp rfl <| g_on rfl rfl rfl <| nlc rfl <| g_on rfl rfl rfl <| fad rfl uy137 rfl ty3.sz <| g_on rfl rfl rfl <| ldp 2 1 _ rfl rfl rfl rfl ty3 <| g_on rfl rfl rfl <| mvs rfl <| g_on rfl rfl rfl <| lenT (s := s) rfl uy9 <| g_on rfl rfl rfl <| cmp _ rfl rfl rfl <| pkf (.bool _) rfl rfl <| jt <| c_cond rfl (fun h8 => ?_) (fun h8 => ?_)
        ·replace h8 := of_decide_eq_true h8
         refine c_seq <| c_dr [_, _, _, _, _, _] [] [(0, 0), (1, 0), (2, 0), (3, 0), (4, 0), (5, 1), (6, 0), (7, 0)] follows (by kernel_rfl) calm_body (keepS [1, 2, 3, 4, 5, 6] rfl) <| bld [pt (0 : Int), pt ([] : Str), p1 (.slice none 0 0), pt (⟨0⟩ : F64), pt (⟨0⟩ : F64), pt (0 : UInt64), pt (zarr : (Arr UInt8 32))] [] _ uy76 (lay76 _ uy76) z76 rfl rfl rfl <| mvp rfl <| nlc rfl <| fad rfl uy137 rfl ty3.sz <| ldp 1 1 _ rfl rfl rfl rfl ty3 <| stw 0 _ [pt (0 : Int), pt ([] : Str), p1 (.slice none 0 0), pt (⟨0⟩ : F64), pt (⟨0⟩ : F64), pt (0 : UInt64), pt (zarr : (Arr UInt8 32))] rfl rfl rfl rfl ty76 ⟨keepI [1, 2, 3, 4, 5, 6] rfl, ?_⟩
         refine agi rfl <| agi rfl <| jt <| c_ret ?_
         exact j_d (own0 := []) (ro0 := [tPow10 9, tDb64 11, tIf 7 eu ev, tIf 8 ru rv]) (.inl rfl) rfl (hr3 Tryz.results42 (rvc (p := pa [pt (0 : Int), pt ([] : Str), p1 (.slice none 0 0), pt (⟨0⟩ : F64), pt (⟨0⟩ : F64), pt (0 : UInt64), pt (zarr : (Arr UInt8 32))]) 0 rfl rfl rfl ty76) (rvt (v := (.int _ _)) rfl) (rvt (v := (.int _ _)) rfl)) [0, 1, 2] [_, _, _] rfl (by kernel_rfl) rfl (.inr ⟨_, parse_place_e (by assumption) hdg4 hdg5 htx6 (by omega), rfl, rfl, rfl⟩)
        ·replace h8 := of_decide_eq_false h8
         refine c_skip <| e_then <| csr <| ldw 1 _ rfl rfl ty76 <| stw 0 _ [pt (3 : Int), pt tt6, p1 (.slice none 0 0), pt df4, pt df5, pt (0 : UInt64), pt (zarr : (Arr UInt8 32))] rfl rfl rfl rfl ty76 ⟨trivial, ?_⟩
         refine agi rfl <| agi rfl <| jt <| c_ret <| e_addE ?_
         exact j_end (own0 := []) (ro0 := [tPow10 9, tDb64 11, tIf 7 eu ev, tIf 8 ru rv]) (.inl rfl) rfl (hr3 Tryz.results42 (rvc (p := pa [pt (3 : Int), pt tt6, p1 (.slice none 0 0), pt df4, pt df5, pt (0 : UInt64), pt (zarr : (Arr UInt8 32))]) 0 rfl rfl rfl ty76) (rvt (v := (.int _ _)) rfl) (rvt (v := (.int _ _)) rfl)) [3] [0, 1, 2] [_] [_, _, _] [] _ rfl rfl (by kernel_rfl) rfl impl_nil (.inl ⟨(⟨(3 : Int), tt6, df4, df5, (0 : UInt64), (zarr : (Arr UInt8 32))⟩ : Con), [], Ow.nil, _, (by have h := parse_place (by assumption) hdg4 hdg5 htx6 (by omega); exact h), by simp, Ow.nil_ok, rfl, rfl, rfl⟩)
       ·refine ⟨trivial, ?_⟩
        refine fad rfl uy76 rfl ty9.sz <| stp 1 1 _ (pt tt6) rfl rfl rfl rfl rfl rfl ty9 ⟨trivial, ?_⟩
        refine jn <| e_in <| e_then <| c_seq <| csr <| mvp rfl <| nlc rfl <| fad rfl uy137 rfl ty4.sz <| ldp 2 2 _ rfl rfl rfl rfl ty4 <| mvb rfl <| g_off rfl rfl rfl rfl <| g_off rfl rfl rfl rfl <| g_off rfl rfl rfl rfl <| g_off rfl rfl rfl rfl <| g_off rfl rfl rfl rfl <| g_off rfl rfl rfl rfl <| g_off rfl rfl rfl rfl <| pkt (.bool _) rfl rfl <| jt <| c_true rfl <| c_seq <| c_dr [_, _, _, _, _, _] [] [(0, 0), (1, 0), (2, 0), (3, 0), (4, 0), (5, 1), (6, 0), (7, 0)] follows (by kernel_rfl) calm_body (keepS [1, 2, 3, 4, 5, 6] rfl) <| bld [pt (0 : Int), pt ([] : Str), p1 (.slice none 0 0), pt (⟨0⟩ : F64), pt (⟨0⟩ : F64), pt (0 : UInt64), pt (zarr : (Arr UInt8 32))] [] _ uy76 (lay76 _ uy76) z76 rfl rfl rfl <| mvp rfl <| nlc rfl <| fad rfl uy137 rfl ty3.sz <| ldp 1 1 _ rfl rfl rfl rfl ty3 <| stw 0 _ [pt (0 : Int), pt ([] : Str), p1 (.slice none 0 0), pt (⟨0⟩ : F64), pt (⟨0⟩ : F64), pt (0 : UInt64), pt (zarr : (Arr UInt8 32))] rfl rfl rfl rfl ty76 ⟨keepI [1, 2, 3, 4, 5, 6] rfl, ?_⟩
        refine agi rfl <| agi rfl <| jt <| c_ret ?_
        exact j_d (own0 := []) (ro0 := [tPow10 9, tDb64 11, tIf 7 eu ev, tIf 8 ru rv]) (.inl rfl) rfl (hr3 Tryz.results42 (rvc (p := pa [pt (0 : Int), pt ([] : Str), p1 (.slice none 0 0), pt (⟨0⟩ : F64), pt (⟨0⟩ : F64), pt (0 : UInt64), pt (zarr : (Arr UInt8 32))]) 0 rfl rfl rfl ty76) (rvt (v := (.int _ _)) rfl) (rvt (v := (.int _ _)) rfl)) [0, 1, 2] [_, _, _] rfl (by kernel_rfl) rfl (.inr ⟨_, parse_place_f2 (by assumption) hdg4 hdg5 htx6, rfl, rfl, rfl⟩)
      ·refine ⟨trivial, ?_⟩
       refine fad rfl uy76 rfl ty71.sz <| stp 1 4 _ (pt df5) rfl rfl rfl rfl rfl rfl ty71 ⟨trivial, ?_⟩
       refine jr <| mvp rfl <| cal (text_bad b10 s dq5 (by omega) (by omega) 0 200 (by omega) (by omega)) [2] [0, 1] [_, _] rfl rfl rfl (by kernel_rfl) impl_nil rfl ?_; rintro _ _ _ ⟨rfl, rfl, rfl⟩; refine ⟨trivial, ?_⟩
       refine fad rfl uy76 rfl ty9.sz <| stp 1 1 _ (pt ([] : Str)) rfl rfl rfl rfl rfl rfl ty9 ⟨trivial, ?_⟩
       refine jn <| e_in <| e_then <| c_seq <| csr <| mvp rfl <| nlc rfl <| fad rfl uy137 rfl ty4.sz <| ldp 2 2 _ rfl rfl rfl rfl ty4 <| mvb rfl <| g_off rfl rfl rfl rfl <| g_off rfl rfl rfl rfl <| g_off rfl rfl rfl rfl <| g_off rfl rfl rfl rfl <| g_off rfl rfl rfl rfl <| g_off rfl rfl rfl rfl <| g_off rfl rfl rfl rfl <| pkt (.bool _) rfl rfl <| jt <| c_true rfl <| c_seq <| c_dr [_, _, _, _, _, _] [] [(0, 0), (1, 0), (2, 0), (3, 0), (4, 0), (5, 1), (6, 0), (7, 0)] follows (by kernel_rfl) calm_body (keepS [1, 2, 3, 4, 5, 6] rfl) <| bld [pt (0 : Int), pt ([] : Str), p1 (.slice none 0 0), pt (⟨0⟩ : F64), pt (⟨0⟩ : F64), pt (0 : UInt64), pt (zarr : (Arr UInt8 32))] [] _ uy76 (lay76 _ uy76) z76 rfl rfl rfl <| mvp rfl <| nlc rfl <| fad rfl uy137 rfl ty3.sz <| ldp 1 1 _ rfl rfl rfl rfl ty3 <| stw 0 _ [pt (0 : Int), pt ([] : Str), p1 (.slice none 0 0), pt (⟨0⟩ : F64), pt (⟨0⟩ : F64), pt (0 : UInt64), pt (zarr : (Arr UInt8 32))] rfl rfl rfl rfl ty76 ⟨keepI [1, 2, 3, 4, 5, 6] rfl, ?_⟩
       refine agi rfl <| agi rfl <| jt <| c_ret ?_
       exact j_d (own0 := []) (ro0 := [tPow10 9, tDb64 11, tIf 7 eu ev, tIf 8 ru rv]) (.inl rfl) rfl (hr3 Tryz.results42 (rvc (p := pa [pt (0 : Int), pt ([] : Str), p1 (.slice none 0 0), pt (⟨0⟩ : F64), pt (⟨0⟩ : F64), pt (0 : UInt64), pt (zarr : (Arr UInt8 32))]) 0 rfl rfl rfl ty76) (rvt (v := (.int _ _)) rfl) (rvt (v := (.int _ _)) rfl)) [0, 1, 2] [_, _, _] rfl (by kernel_rfl) rfl (.inr ⟨_, parse_place_f1 (by assumption) hdg4 hdg5, rfl, rfl, rfl⟩)
     ·refine ⟨trivial, ?_⟩
      refine fad rfl uy76 rfl ty3.sz <| stp 1 0 _ (pt (3 : Int)) rfl rfl rfl rfl rfl rfl ty3 ⟨trivial, ?_⟩
      refine fad rfl uy76 rfl ty71.sz <| stp 1 3 _ (pt df4) rfl rfl rfl rfl rfl rfl ty71 ⟨trivial, ?_⟩
      refine jsr <| mvp rfl <| cal (degrees_bad b10 s dq4 (by omega) (by omega) (⟨4640537203540230144⟩ : F64)) [2] [0, 1] [_, _] rfl rfl rfl (by kernel_rfl) impl_nil rfl ?_; rintro _ _ _ ⟨df8, rfl, rfl, rfl⟩; refine ⟨trivial, ?_⟩
      refine fad rfl uy76 rfl ty71.sz <| stp 1 4 _ (pt df8) rfl rfl rfl rfl rfl rfl ty71 ⟨trivial, ?_⟩
      refine jr <| mvp rfl <| cal (text_bad b10 s dq4 (by omega) (by omega) 0 200 (by omega) (by omega)) [2] [0, 1] [_, _] rfl rfl rfl (by kernel_rfl) impl_nil rfl ?_; rintro _ _ _ ⟨rfl, rfl, rfl⟩; refine ⟨trivial, ?_⟩
      refine fad rfl uy76 rfl ty9.sz <| stp 1 1 _ (pt ([] : Str)) rfl rfl rfl rfl rfl rfl ty9 ⟨trivial, ?_⟩
      refine jn <| e_in <| e_then <| c_seq <| csr <| mvp rfl <| nlc rfl <| fad rfl uy137 rfl ty4.sz <| ldp 2 2 _ rfl rfl rfl rfl ty4 <| mvb rfl <| g_off rfl rfl rfl rfl <| g_off rfl rfl rfl rfl <| g_off rfl rfl rfl rfl <| g_off rfl rfl rfl rfl <| g_off rfl rfl rfl rfl <| g_off rfl rfl rfl rfl <| g_off rfl rfl rfl rfl <| pkt (.bool _) rfl rfl <| jt <| c_true rfl <| c_seq <| c_dr [_, _, _, _, _, _] [] [(0, 0), (1, 0), (2, 0), (3, 0), (4, 0), (5, 1), (6, 0), (7, 0)] follows (by kernel_rfl) calm_body (keepS [1, 2, 3, 4, 5, 6] rfl) <| bld [pt (0 : Int), pt ([] : Str), p1 (.slice none 0 0), pt (⟨0⟩ : F64), pt (⟨0⟩ : F64), pt (0 : UInt64), pt (zarr : (Arr UInt8 32))] [] _ uy76 (lay76 _ uy76) z76 rfl rfl rfl <| mvp rfl <| nlc rfl <| fad rfl uy137 rfl ty3.sz <| ldp 1 1 _ rfl rfl rfl rfl ty3 <| stw 0 _ [pt (0 : Int), pt ([] : Str), p1 (.slice none 0 0), pt (⟨0⟩ : F64), pt (⟨0⟩ : F64), pt (0 : UInt64), pt (zarr : (Arr UInt8 32))] rfl rfl rfl rfl ty76 ⟨keepI [1, 2, 3, 4, 5, 6] rfl, ?_⟩
      refine agi rfl <| agi rfl <| jt <| c_ret ?_
      exact j_d (own0 := []) (ro0 := [tPow10 9, tDb64 11, tIf 7 eu ev, tIf 8 ru rv]) (.inl rfl) rfl (hr3 Tryz.results42 (rvc (p := pa [pt (0 : Int), pt ([] : Str), p1 (.slice none 0 0), pt (⟨0⟩ : F64), pt (⟨0⟩ : F64), pt (0 : UInt64), pt (zarr : (Arr UInt8 32))]) 0 rfl rfl rfl ty76) (rvt (v := (.int _ _)) rfl) (rvt (v := (.int _ _)) rfl)) [0, 1, 2] [_, _, _] rfl (by kernel_rfl) rfl (.inr ⟨_, parse_place_f0 (by assumption) hdg4, rfl, rfl, rfl⟩)
    ·replace h7 := of_decide_eq_false h7
     refine csr <| scmp (a := (word s 0)) (b := ([114, 101, 97, 99, 116] : Str)) _ rfl rfl uy9 rfl <| agb rfl <| jt <| c_cond rfl (fun h9 => ?_) (fun h9 => ?_)
     ·replace h9 := of_decide_eq_true h9
      refine csr <| mvp rfl <| cal (number_ct b10 s ((word s 0).length) (by omega) (by omega) (0 : UInt64) (4294967295 : UInt64) eu ev ru rv) [1] [0, 2] [_, _] rfl rfl rfl (by kernel_rfl) (impl_cons (impl_at 0 rfl) (impl_cons (impl_at 2 rfl) (impl_cons (impl_at 3 rfl) impl_nil))) rfl ?_; rintro _ _ _ (⟨nn10, nq10, hnm10, rfl, rfl, rfl⟩ | ⟨nn10, nq10, hnm10, hnm10b, rfl, rfl, rfl⟩)
      ·have hnm10b := numR_next hnm10; refine ⟨trivial, ?_⟩
       refine fad rfl uy76 rfl ty3.sz <| stp 1 0 _ (pt (4 : Int)) rfl rfl rfl rfl rfl rfl ty3 ⟨trivial, ?_⟩
       refine fad rfl uy76 rfl ty72.sz <| stp 1 5 _ (pt nn10) rfl rfl rfl rfl rfl rfl ty72 ⟨trivial, ?_⟩
       refine jr <| mvp rfl <| cal (text_rct b10 s nq10 (by omega) (by omega) 1 64 (by omega) (by omega) eu ev ru rv) [2] [0, 1] [_, _] rfl rfl rfl (by kernel_rfl) (impl_cons (impl_at 1 rfl) (impl_cons (impl_at 2 rfl) (impl_cons (impl_at 3 rfl) impl_nil))) rfl ?_; rintro _ _ _ (⟨tt11, tq11, htx11, rfl, rfl, rfl⟩ | ⟨tt11, tq11, htx11, htx11b, rfl, rfl, rfl⟩)
       ·have htx11b := textR_next htx11; refine ⟨trivial, ?_⟩
        refine fad rfl uy76 rfl ty9.sz <| stp 1 1 _ (pt tt11) rfl rfl rfl rfl rfl rfl ty9 ⟨trivial, ?_⟩
        refine jn <| e_in <| e_then <| c_seq <| csr <| mvp rfl <| nlc rfl <| fad rfl uy137 rfl ty4.sz <| ldp 2 2 _ rfl rfl rfl rfl ty4 <| mvb rfl <| g_on rfl rfl rfl <| mvp rfl <| g_on rfl rfl rfl <| nlc rfl <| g_on rfl rfl rfl <| fad rfl uy137 rfl ty3.sz <| g_on rfl rfl rfl <| ldp 2 1 _ rfl rfl rfl rfl ty3 <| g_on rfl rfl rfl <| mvs rfl <| g_on rfl rfl rfl <| lenT (s := s) rfl uy9 <| g_on rfl rfl rfl <| cmp _ rfl rfl rfl <| pkf (.bool _) rfl rfl <| jt <| c_cond rfl (fun h10 => ?_) (fun h10 => ?_)
        ·replace h10 := of_decide_eq_true h10
         refine c_seq <| c_dr [_, _, _, _, _, _] [] [(0, 0), (1, 0), (2, 0), (3, 0), (4, 0), (5, 1), (6, 0), (7, 0)] follows (by kernel_rfl) calm_body (keepS [1, 2, 3, 4, 5, 6] rfl) <| bld [pt (0 : Int), pt ([] : Str), p1 (.slice none 0 0), pt (⟨0⟩ : F64), pt (⟨0⟩ : F64), pt (0 : UInt64), pt (zarr : (Arr UInt8 32))] [] _ uy76 (lay76 _ uy76) z76 rfl rfl rfl <| mvp rfl <| nlc rfl <| fad rfl uy137 rfl ty3.sz <| ldp 1 1 _ rfl rfl rfl rfl ty3 <| stw 0 _ [pt (0 : Int), pt ([] : Str), p1 (.slice none 0 0), pt (⟨0⟩ : F64), pt (⟨0⟩ : F64), pt (0 : UInt64), pt (zarr : (Arr UInt8 32))] rfl rfl rfl rfl ty76 ⟨keepI [1, 2, 3, 4, 5, 6] rfl, ?_⟩
         refine agi rfl <| agi rfl <| jt <| c_ret ?_
         exact j_d (own0 := []) (ro0 := [tPow10 9, tDb64 11, tIf 7 eu ev, tIf 8 ru rv]) (.inl rfl) rfl (hr3 Tryz.results42 (rvc (p := pa [pt (0 : Int), pt ([] : Str), p1 (.slice none 0 0), pt (⟨0⟩ : F64), pt (⟨0⟩ : F64), pt (0 : UInt64), pt (zarr : (Arr UInt8 32))]) 0 rfl rfl rfl ty76) (rvt (v := (.int _ _)) rfl) (rvt (v := (.int _ _)) rfl)) [0, 1, 2] [_, _, _] rfl (by kernel_rfl) rfl (.inr ⟨_, parse_react_e (by assumption) hnm10 htx11 (by omega), rfl, rfl, rfl⟩)
        ·replace h10 := of_decide_eq_false h10
         refine c_skip <| e_then <| csr <| ldw 1 _ rfl rfl ty76 <| stw 0 _ [pt (4 : Int), pt tt11, p1 (.slice none 0 0), pt (⟨0⟩ : F64), pt (⟨0⟩ : F64), pt nn10, pt (zarr : (Arr UInt8 32))] rfl rfl rfl rfl ty76 ⟨trivial, ?_⟩
         refine agi rfl <| agi rfl <| jt <| c_ret <| e_addE ?_
         exact j_end (own0 := []) (ro0 := [tPow10 9, tDb64 11, tIf 7 eu ev, tIf 8 ru rv]) (.inl rfl) rfl (hr3 Tryz.results42 (rvc (p := pa [pt (4 : Int), pt tt11, p1 (.slice none 0 0), pt (⟨0⟩ : F64), pt (⟨0⟩ : F64), pt nn10, pt (zarr : (Arr UInt8 32))]) 0 rfl rfl rfl ty76) (rvt (v := (.int _ _)) rfl) (rvt (v := (.int _ _)) rfl)) [3] [0, 1, 2] [_] [_, _, _] [] _ rfl rfl (by kernel_rfl) rfl impl_nil (.inl ⟨(⟨(4 : Int), tt11, (⟨0⟩ : F64), (⟨0⟩ : F64), nn10, (zarr : (Arr UInt8 32))⟩ : Con), [], Ow.nil, _, (by have h := parse_react (by assumption) hnm10 htx11 (by omega); rw [UInt64.ofNat_toNat] at h; exact h), by simp, Ow.nil_ok, rfl, rfl, rfl⟩)
       ·refine ⟨trivial, ?_⟩
        refine fad rfl uy76 rfl ty9.sz <| stp 1 1 _ (pt tt11) rfl rfl rfl rfl rfl rfl ty9 ⟨trivial, ?_⟩
        refine jn <| e_in <| e_then <| c_seq <| csr <| mvp rfl <| nlc rfl <| fad rfl uy137 rfl ty4.sz <| ldp 2 2 _ rfl rfl rfl rfl ty4 <| mvb rfl <| g_off rfl rfl rfl rfl <| g_off rfl rfl rfl rfl <| g_off rfl rfl rfl rfl <| g_off rfl rfl rfl rfl <| g_off rfl rfl rfl rfl <| g_off rfl rfl rfl rfl <| g_off rfl rfl rfl rfl <| pkt (.bool _) rfl rfl <| jt <| c_true rfl <| c_seq <| c_dr [_, _, _, _, _, _] [] [(0, 0), (1, 0), (2, 0), (3, 0), (4, 0), (5, 1), (6, 0), (7, 0)] follows (by kernel_rfl) calm_body (keepS [1, 2, 3, 4, 5, 6] rfl) <| bld [pt (0 : Int), pt ([] : Str), p1 (.slice none 0 0), pt (⟨0⟩ : F64), pt (⟨0⟩ : F64), pt (0 : UInt64), pt (zarr : (Arr UInt8 32))] [] _ uy76 (lay76 _ uy76) z76 rfl rfl rfl <| mvp rfl <| nlc rfl <| fad rfl uy137 rfl ty3.sz <| ldp 1 1 _ rfl rfl rfl rfl ty3 <| stw 0 _ [pt (0 : Int), pt ([] : Str), p1 (.slice none 0 0), pt (⟨0⟩ : F64), pt (⟨0⟩ : F64), pt (0 : UInt64), pt (zarr : (Arr UInt8 32))] rfl rfl rfl rfl ty76 ⟨keepI [1, 2, 3, 4, 5, 6] rfl, ?_⟩
        refine agi rfl <| agi rfl <| jt <| c_ret ?_
        exact j_d (own0 := []) (ro0 := [tPow10 9, tDb64 11, tIf 7 eu ev, tIf 8 ru rv]) (.inl rfl) rfl (hr3 Tryz.results42 (rvc (p := pa [pt (0 : Int), pt ([] : Str), p1 (.slice none 0 0), pt (⟨0⟩ : F64), pt (⟨0⟩ : F64), pt (0 : UInt64), pt (zarr : (Arr UInt8 32))]) 0 rfl rfl rfl ty76) (rvt (v := (.int _ _)) rfl) (rvt (v := (.int _ _)) rfl)) [0, 1, 2] [_, _, _] rfl (by kernel_rfl) rfl (.inr ⟨_, parse_react_f1 (by assumption) hnm10 htx11, rfl, rfl, rfl⟩)
      ·refine ⟨trivial, ?_⟩
       refine fad rfl uy76 rfl ty3.sz <| stp 1 0 _ (pt (4 : Int)) rfl rfl rfl rfl rfl rfl ty3 ⟨trivial, ?_⟩
       refine fad rfl uy76 rfl ty72.sz <| stp 1 5 _ (pt nn10) rfl rfl rfl rfl rfl rfl ty72 ⟨trivial, ?_⟩
       refine jr <| mvp rfl <| cal (text_bad b10 s nq10 (by omega) (by omega) 1 64 (by omega) (by omega)) [2] [0, 1] [_, _] rfl rfl rfl (by kernel_rfl) impl_nil rfl ?_; rintro _ _ _ ⟨rfl, rfl, rfl⟩; refine ⟨trivial, ?_⟩
       refine fad rfl uy76 rfl ty9.sz <| stp 1 1 _ (pt ([] : Str)) rfl rfl rfl rfl rfl rfl ty9 ⟨trivial, ?_⟩
       refine jn <| e_in <| e_then <| c_seq <| csr <| mvp rfl <| nlc rfl <| fad rfl uy137 rfl ty4.sz <| ldp 2 2 _ rfl rfl rfl rfl ty4 <| mvb rfl <| g_off rfl rfl rfl rfl <| g_off rfl rfl rfl rfl <| g_off rfl rfl rfl rfl <| g_off rfl rfl rfl rfl <| g_off rfl rfl rfl rfl <| g_off rfl rfl rfl rfl <| g_off rfl rfl rfl rfl <| pkt (.bool _) rfl rfl <| jt <| c_true rfl <| c_seq <| c_dr [_, _, _, _, _, _] [] [(0, 0), (1, 0), (2, 0), (3, 0), (4, 0), (5, 1), (6, 0), (7, 0)] follows (by kernel_rfl) calm_body (keepS [1, 2, 3, 4, 5, 6] rfl) <| bld [pt (0 : Int), pt ([] : Str), p1 (.slice none 0 0), pt (⟨0⟩ : F64), pt (⟨0⟩ : F64), pt (0 : UInt64), pt (zarr : (Arr UInt8 32))] [] _ uy76 (lay76 _ uy76) z76 rfl rfl rfl <| mvp rfl <| nlc rfl <| fad rfl uy137 rfl ty3.sz <| ldp 1 1 _ rfl rfl rfl rfl ty3 <| stw 0 _ [pt (0 : Int), pt ([] : Str), p1 (.slice none 0 0), pt (⟨0⟩ : F64), pt (⟨0⟩ : F64), pt (0 : UInt64), pt (zarr : (Arr UInt8 32))] rfl rfl rfl rfl ty76 ⟨keepI [1, 2, 3, 4, 5, 6] rfl, ?_⟩
       refine agi rfl <| agi rfl <| jt <| c_ret ?_
       exact j_d (own0 := []) (ro0 := [tPow10 9, tDb64 11, tIf 7 eu ev, tIf 8 ru rv]) (.inl rfl) rfl (hr3 Tryz.results42 (rvc (p := pa [pt (0 : Int), pt ([] : Str), p1 (.slice none 0 0), pt (⟨0⟩ : F64), pt (⟨0⟩ : F64), pt (0 : UInt64), pt (zarr : (Arr UInt8 32))]) 0 rfl rfl rfl ty76) (rvt (v := (.int _ _)) rfl) (rvt (v := (.int _ _)) rfl)) [0, 1, 2] [_, _, _] rfl (by kernel_rfl) rfl (.inr ⟨_, parse_react_f0 (by assumption) hnm10, rfl, rfl, rfl⟩)
     ·replace h9 := of_decide_eq_false h9
      refine csr <| scmp (a := (word s 0)) (b := ([116, 105, 109, 101, 114] : Str)) _ rfl rfl uy9 rfl <| agb rfl <| jt <| c_cond rfl (fun h11 => ?_) (fun h11 => ?_)
      ·replace h11 := of_decide_eq_true h11
       refine c_reg <| mvp rfl <| cal (number_ct b10 s ((word s 0).length) (by omega) (by omega) (0 : UInt64) (31536000 : UInt64) eu ev ru rv) [1] [0, 2] [_, _] rfl rfl rfl (by kernel_rfl) (impl_cons (impl_at 0 rfl) (impl_cons (impl_at 2 rfl) (impl_cons (impl_at 3 rfl) impl_nil))) rfl ?_; rintro _ _ _ (⟨nn13, nq13, hnm13, rfl, rfl, rfl⟩ | ⟨nn13, nq13, hnm13, hnm13b, rfl, rfl, rfl⟩)
       ·have hnm13b := numR_next hnm13; refine ⟨trivial, ?_⟩
        refine fad rfl uy76 rfl ty3.sz <| stp 1 0 _ (pt (5 : Int)) rfl rfl rfl rfl rfl rfl ty3 ⟨trivial, ?_⟩
        refine fad rfl uy76 rfl ty72.sz <| stp 1 5 _ (pt nn13) rfl rfl rfl rfl rfl rfl ty72 ⟨trivial, ?_⟩
        refine jn <| e_in <| e_then <| c_seq <| csr <| mvp rfl <| nlc rfl <| fad rfl uy137 rfl ty4.sz <| ldp 2 2 _ rfl rfl rfl rfl ty4 <| mvb rfl <| g_on rfl rfl rfl <| mvp rfl <| g_on rfl rfl rfl <| nlc rfl <| g_on rfl rfl rfl <| fad rfl uy137 rfl ty3.sz <| g_on rfl rfl rfl <| ldp 2 1 _ rfl rfl rfl rfl ty3 <| g_on rfl rfl rfl <| mvs rfl <| g_on rfl rfl rfl <| lenT (s := s) rfl uy9 <| g_on rfl rfl rfl <| cmp _ rfl rfl rfl <| pkf (.bool _) rfl rfl <| jt <| c_cond rfl (fun h12 => ?_) (fun h12 => ?_)
        ·replace h12 := of_decide_eq_true h12
         refine c_seq <| c_dr [_, _, _, _, _, _] [] [(0, 0), (1, 0), (2, 0), (3, 0), (4, 0), (5, 1), (6, 0), (7, 0)] follows (by kernel_rfl) calm_body (keepS [1, 2, 3, 4, 5, 6] rfl) <| bld [pt (0 : Int), pt ([] : Str), p1 (.slice none 0 0), pt (⟨0⟩ : F64), pt (⟨0⟩ : F64), pt (0 : UInt64), pt (zarr : (Arr UInt8 32))] [] _ uy76 (lay76 _ uy76) z76 rfl rfl rfl <| mvp rfl <| nlc rfl <| fad rfl uy137 rfl ty3.sz <| ldp 1 1 _ rfl rfl rfl rfl ty3 <| stw 0 _ [pt (0 : Int), pt ([] : Str), p1 (.slice none 0 0), pt (⟨0⟩ : F64), pt (⟨0⟩ : F64), pt (0 : UInt64), pt (zarr : (Arr UInt8 32))] rfl rfl rfl rfl ty76 ⟨keepI [1, 2, 3, 4, 5, 6] rfl, ?_⟩
         refine agi rfl <| agi rfl <| jt <| c_ret ?_
         exact j_d (own0 := []) (ro0 := [tPow10 9, tDb64 11, tIf 7 eu ev, tIf 8 ru rv]) (.inl rfl) rfl (hr3 Tryz.results42 (rvc (p := pa [pt (0 : Int), pt ([] : Str), p1 (.slice none 0 0), pt (⟨0⟩ : F64), pt (⟨0⟩ : F64), pt (0 : UInt64), pt (zarr : (Arr UInt8 32))]) 0 rfl rfl rfl ty76) (rvt (v := (.int _ _)) rfl) (rvt (v := (.int _ _)) rfl)) [0, 1, 2] [_, _, _] rfl (by kernel_rfl) rfl (.inr ⟨_, parse_timer_e (by assumption) hnm13 (by omega), rfl, rfl, rfl⟩)
        ·replace h12 := of_decide_eq_false h12
         refine c_skip <| e_then <| csr <| ldw 1 _ rfl rfl ty76 <| stw 0 _ [pt (5 : Int), pt ([] : Str), p1 (.slice none 0 0), pt (⟨0⟩ : F64), pt (⟨0⟩ : F64), pt nn13, pt (zarr : (Arr UInt8 32))] rfl rfl rfl rfl ty76 ⟨trivial, ?_⟩
         refine agi rfl <| agi rfl <| jt <| c_ret <| e_addE ?_
         exact j_end (own0 := []) (ro0 := [tPow10 9, tDb64 11, tIf 7 eu ev, tIf 8 ru rv]) (.inl rfl) rfl (hr3 Tryz.results42 (rvc (p := pa [pt (5 : Int), pt ([] : Str), p1 (.slice none 0 0), pt (⟨0⟩ : F64), pt (⟨0⟩ : F64), pt nn13, pt (zarr : (Arr UInt8 32))]) 0 rfl rfl rfl ty76) (rvt (v := (.int _ _)) rfl) (rvt (v := (.int _ _)) rfl)) [3] [0, 1, 2] [_] [_, _, _] [] _ rfl rfl (by kernel_rfl) rfl impl_nil (.inl ⟨(⟨(5 : Int), ([] : Str), (⟨0⟩ : F64), (⟨0⟩ : F64), nn13, (zarr : (Arr UInt8 32))⟩ : Con), [], Ow.nil, _, (by have h := parse_timer (by assumption) hnm13 (by omega); rw [UInt64.ofNat_toNat] at h; exact h), by simp, Ow.nil_ok, rfl, rfl, rfl⟩)
       ·refine ⟨trivial, ?_⟩
        refine fad rfl uy76 rfl ty3.sz <| stp 1 0 _ (pt (5 : Int)) rfl rfl rfl rfl rfl rfl ty3 ⟨trivial, ?_⟩
        refine fad rfl uy76 rfl ty72.sz <| stp 1 5 _ (pt nn13) rfl rfl rfl rfl rfl rfl ty72 ⟨trivial, ?_⟩
        refine jn <| e_in <| e_then <| c_seq <| csr <| mvp rfl <| nlc rfl <| fad rfl uy137 rfl ty4.sz <| ldp 2 2 _ rfl rfl rfl rfl ty4 <| mvb rfl <| g_off rfl rfl rfl rfl <| g_off rfl rfl rfl rfl <| g_off rfl rfl rfl rfl <| g_off rfl rfl rfl rfl <| g_off rfl rfl rfl rfl <| g_off rfl rfl rfl rfl <| g_off rfl rfl rfl rfl <| pkt (.bool _) rfl rfl <| jt <| c_true rfl <| c_seq <| c_dr [_, _, _, _, _, _] [] [(0, 0), (1, 0), (2, 0), (3, 0), (4, 0), (5, 1), (6, 0), (7, 0)] follows (by kernel_rfl) calm_body (keepS [1, 2, 3, 4, 5, 6] rfl) <| bld [pt (0 : Int), pt ([] : Str), p1 (.slice none 0 0), pt (⟨0⟩ : F64), pt (⟨0⟩ : F64), pt (0 : UInt64), pt (zarr : (Arr UInt8 32))] [] _ uy76 (lay76 _ uy76) z76 rfl rfl rfl <| mvp rfl <| nlc rfl <| fad rfl uy137 rfl ty3.sz <| ldp 1 1 _ rfl rfl rfl rfl ty3 <| stw 0 _ [pt (0 : Int), pt ([] : Str), p1 (.slice none 0 0), pt (⟨0⟩ : F64), pt (⟨0⟩ : F64), pt (0 : UInt64), pt (zarr : (Arr UInt8 32))] rfl rfl rfl rfl ty76 ⟨keepI [1, 2, 3, 4, 5, 6] rfl, ?_⟩
        refine agi rfl <| agi rfl <| jt <| c_ret ?_
        exact j_d (own0 := []) (ro0 := [tPow10 9, tDb64 11, tIf 7 eu ev, tIf 8 ru rv]) (.inl rfl) rfl (hr3 Tryz.results42 (rvc (p := pa [pt (0 : Int), pt ([] : Str), p1 (.slice none 0 0), pt (⟨0⟩ : F64), pt (⟨0⟩ : F64), pt (0 : UInt64), pt (zarr : (Arr UInt8 32))]) 0 rfl rfl rfl ty76) (rvt (v := (.int _ _)) rfl) (rvt (v := (.int _ _)) rfl)) [0, 1, 2] [_, _, _] rfl (by kernel_rfl) rfl (.inr ⟨_, parse_timer_f0 (by assumption) hnm13, rfl, rfl, rfl⟩)
      ·replace h11 := of_decide_eq_false h11
       refine csr <| scmp (a := (word s 0)) (b := ([102, 105, 108, 101] : Str)) _ rfl rfl uy9 rfl <| agb rfl <| jt <| c_cond rfl (fun h13 => ?_) (fun h13 => ?_)
       ·replace h13 := of_decide_eq_true h13
        refine csr <| mvp rfl <| cal (text_rct b10 s ((word s 0).length) (by omega) (by omega) 1 255 (by omega) (by omega) eu ev ru rv) [1] [0, 2] [_, _] rfl rfl rfl (by kernel_rfl) (impl_cons (impl_at 1 rfl) (impl_cons (impl_at 2 rfl) (impl_cons (impl_at 3 rfl) impl_nil))) rfl ?_; rintro _ _ _ (⟨tt14, tq14, htx14, rfl, rfl, rfl⟩ | ⟨tt14, tq14, htx14, htx14b, rfl, rfl, rfl⟩)
        ·have htx14b := textR_next htx14; refine ⟨trivial, ?_⟩
         refine fad rfl uy76 rfl ty3.sz <| stp 1 0 _ (pt (6 : Int)) rfl rfl rfl rfl rfl rfl ty3 ⟨trivial, ?_⟩
         refine fad rfl uy76 rfl ty9.sz <| stp 1 1 _ (pt tt14) rfl rfl rfl rfl rfl rfl ty9 ⟨trivial, ?_⟩
         refine jsr <| mvp rfl <| cal (number_ct b10 s tq14 (by omega) (by omega) (0 : UInt64) (1099511627776 : UInt64) eu ev ru rv) [2] [0, 1] [_, _] rfl rfl rfl (by kernel_rfl) (impl_cons (impl_at 0 rfl) (impl_cons (impl_at 2 rfl) (impl_cons (impl_at 3 rfl) impl_nil))) rfl ?_; rintro _ _ _ (⟨nn15, nq15, hnm15, rfl, rfl, rfl⟩ | ⟨nn15, nq15, hnm15, hnm15b, rfl, rfl, rfl⟩)
         ·have hnm15b := numR_next hnm15; refine ⟨trivial, ?_⟩
          refine fad rfl uy76 rfl ty72.sz <| stp 1 5 _ (pt nn15) rfl rfl rfl rfl rfl rfl ty72 ⟨trivial, ?_⟩
          refine jr <| mvp rfl <| cal (bytes_ct b10 s nq15 (by omega) (by omega) 32 (by omega) (by omega)) [2] [0, 1] [_, _] rfl rfl rfl (by kernel_rfl) impl_nil rfl ?_; rintro _ _ _ (⟨yb16, yq16, hby16, hky16, rfl, rfl, rfl⟩ | ⟨yb16, yx16, yq16, hby16, hby16b, hky16, hyl16, rfl, rfl, rfl⟩)
          ·have hby16b := hexR_next hby16; refine ⟨trivial, ?_⟩
           refine sap rfl uy74 (by omega) <| ldRow (xs := (hexb (word s (nq15 + 1)) 32)) 3 hky16 (hrow_length _ _ _) (by decide) rfl rfl rfl ty74 <| fad rfl uy76 rfl ty74.sz <| stp 1 6 _ (pt (⟨(hexb (word s (nq15 + 1)) 32), (hrow_length _ _ _)⟩ : (Arr UInt8 32))) rfl rfl rfl rfl rfl rfl ty74 ⟨trivial, ?_⟩
           refine jn <| e_in <| e_then <| c_seq <| csr <| mvp rfl <| nlc rfl <| fad rfl uy137 rfl ty4.sz <| ldp 2 2 _ rfl rfl rfl rfl ty4 <| mvb rfl <| g_on rfl rfl rfl <| mvp rfl <| g_on rfl rfl rfl <| nlc rfl <| g_on rfl rfl rfl <| fad rfl uy137 rfl ty3.sz <| g_on rfl rfl rfl <| ldp 2 1 _ rfl rfl rfl rfl ty3 <| g_on rfl rfl rfl <| mvs rfl <| g_on rfl rfl rfl <| lenT (s := s) rfl uy9 <| g_on rfl rfl rfl <| cmp _ rfl rfl rfl <| pkf (.bool _) rfl rfl <| jt <| c_cond rfl (fun h14 => ?_) (fun h14 => ?_)
           ·replace h14 := of_decide_eq_true h14
            refine c_seq <| c_dr [_, _, _, _, _, _, _] [] [(0, 0), (1, 0), (2, 0), (3, 0), (4, 0), (5, 1), (6, 0), (7, 0)] follows (by kernel_rfl) calm_body (keepS [1, 2, 3, 4, 5, 6, 7] rfl) <| bld [pt (0 : Int), pt ([] : Str), p1 (.slice none 0 0), pt (⟨0⟩ : F64), pt (⟨0⟩ : F64), pt (0 : UInt64), pt (zarr : (Arr UInt8 32))] [] _ uy76 (lay76 _ uy76) z76 rfl rfl rfl <| mvp rfl <| nlc rfl <| fad rfl uy137 rfl ty3.sz <| ldp 1 1 _ rfl rfl rfl rfl ty3 <| stw 0 _ [pt (0 : Int), pt ([] : Str), p1 (.slice none 0 0), pt (⟨0⟩ : F64), pt (⟨0⟩ : F64), pt (0 : UInt64), pt (zarr : (Arr UInt8 32))] rfl rfl rfl rfl ty76 ⟨keepI [1, 2, 3, 4, 5, 6, 7] rfl, ?_⟩
            refine agi rfl <| agi rfl <| jt <| c_ret ?_
            exact j_d (own0 := []) (ro0 := [tPow10 9, tDb64 11, tIf 7 eu ev, tIf 8 ru rv]) (.inl rfl) rfl (hr3 Tryz.results42 (rvc (p := pa [pt (0 : Int), pt ([] : Str), p1 (.slice none 0 0), pt (⟨0⟩ : F64), pt (⟨0⟩ : F64), pt (0 : UInt64), pt (zarr : (Arr UInt8 32))]) 0 rfl rfl rfl ty76) (rvt (v := (.int _ _)) rfl) (rvt (v := (.int _ _)) rfl)) [0, 1, 2, 3] [_, _, _, _] rfl (by kernel_rfl) rfl (.inr ⟨_, parse_file_e (by assumption) htx14 hnm15 hby16 (by omega), rfl, rfl, rfl⟩)
           ·replace h14 := of_decide_eq_false h14
            refine c_skip <| e_then <| csr <| ldw 1 _ rfl rfl ty76 <| stw 0 _ [pt (6 : Int), pt tt14, p1 (.slice none 0 0), pt (⟨0⟩ : F64), pt (⟨0⟩ : F64), pt nn15, pt (⟨(hexb (word s (nq15 + 1)) 32), (hrow_length _ _ _)⟩ : (Arr UInt8 32))] rfl rfl rfl rfl ty76 ⟨trivial, ?_⟩
            refine agi rfl <| agi rfl <| jt <| c_ret <| e_addE ?_
            exact j_end (own0 := []) (ro0 := [tPow10 9, tDb64 11, tIf 7 eu ev, tIf 8 ru rv]) (.inl rfl) rfl (hr3 Tryz.results42 (rvc (p := pa [pt (6 : Int), pt tt14, p1 (.slice none 0 0), pt (⟨0⟩ : F64), pt (⟨0⟩ : F64), pt nn15, pt (⟨(hexb (word s (nq15 + 1)) 32), (hrow_length _ _ _)⟩ : (Arr UInt8 32))]) 0 rfl rfl rfl ty76) (rvt (v := (.int _ _)) rfl) (rvt (v := (.int _ _)) rfl)) [4] [0, 1, 2, 3] [_] [_, _, _, _] [] _ rfl rfl (by kernel_rfl) rfl impl_nil (.inl ⟨(⟨(6 : Int), tt14, (⟨0⟩ : F64), (⟨0⟩ : F64), nn15, (⟨(hexb (word s (nq15 + 1)) 32), (hrow_length _ _ _)⟩ : (Arr UInt8 32))⟩ : Con), [], Ow.nil, _, (by have h := parse_file (by assumption) htx14 hnm15 hby16 (by omega); rw [UInt64.ofNat_toNat, mkKey_hex] at h; exact h), by simp, Ow.nil_ok, rfl, rfl, rfl⟩)
          ·refine ⟨trivial, ?_⟩
           refine sap rfl uy74 (by omega) <| ldRow (xs := yx16) 3 hky16 hyl16 (by decide) rfl rfl rfl ty74 <| fad rfl uy76 rfl ty74.sz <| stp 1 6 _ (pt (⟨yx16, hyl16⟩ : (Arr UInt8 32))) rfl rfl rfl rfl rfl rfl ty74 ⟨trivial, ?_⟩
           refine jn <| e_in <| e_then <| c_seq <| csr <| mvp rfl <| nlc rfl <| fad rfl uy137 rfl ty4.sz <| ldp 2 2 _ rfl rfl rfl rfl ty4 <| mvb rfl <| g_off rfl rfl rfl rfl <| g_off rfl rfl rfl rfl <| g_off rfl rfl rfl rfl <| g_off rfl rfl rfl rfl <| g_off rfl rfl rfl rfl <| g_off rfl rfl rfl rfl <| g_off rfl rfl rfl rfl <| pkt (.bool _) rfl rfl <| jt <| c_true rfl <| c_seq <| c_dr [_, _, _, _, _, _, _] [] [(0, 0), (1, 0), (2, 0), (3, 0), (4, 0), (5, 1), (6, 0), (7, 0)] follows (by kernel_rfl) calm_body (keepS [1, 2, 3, 4, 5, 6, 7] rfl) <| bld [pt (0 : Int), pt ([] : Str), p1 (.slice none 0 0), pt (⟨0⟩ : F64), pt (⟨0⟩ : F64), pt (0 : UInt64), pt (zarr : (Arr UInt8 32))] [] _ uy76 (lay76 _ uy76) z76 rfl rfl rfl <| mvp rfl <| nlc rfl <| fad rfl uy137 rfl ty3.sz <| ldp 1 1 _ rfl rfl rfl rfl ty3 <| stw 0 _ [pt (0 : Int), pt ([] : Str), p1 (.slice none 0 0), pt (⟨0⟩ : F64), pt (⟨0⟩ : F64), pt (0 : UInt64), pt (zarr : (Arr UInt8 32))] rfl rfl rfl rfl ty76 ⟨keepI [1, 2, 3, 4, 5, 6, 7] rfl, ?_⟩
           refine agi rfl <| agi rfl <| jt <| c_ret ?_
           exact j_d (own0 := []) (ro0 := [tPow10 9, tDb64 11, tIf 7 eu ev, tIf 8 ru rv]) (.inl rfl) rfl (hr3 Tryz.results42 (rvc (p := pa [pt (0 : Int), pt ([] : Str), p1 (.slice none 0 0), pt (⟨0⟩ : F64), pt (⟨0⟩ : F64), pt (0 : UInt64), pt (zarr : (Arr UInt8 32))]) 0 rfl rfl rfl ty76) (rvt (v := (.int _ _)) rfl) (rvt (v := (.int _ _)) rfl)) [0, 1, 2, 3] [_, _, _, _] rfl (by kernel_rfl) rfl (.inr ⟨_, parse_file_f2 (by assumption) htx14 hnm15 hby16, rfl, rfl, rfl⟩)
         ·refine ⟨trivial, ?_⟩
          refine fad rfl uy76 rfl ty72.sz <| stp 1 5 _ (pt nn15) rfl rfl rfl rfl rfl rfl ty72 ⟨trivial, ?_⟩
          refine jr <| mvp rfl <| cal (bytes_bad b10 s nq15 (by omega) (by omega) 32 (by omega) (by omega)) [2] [0, 1] [_, _] rfl rfl rfl (by kernel_rfl) impl_nil rfl ?_; rintro _ _ _ ⟨yb17, yx17, hky17, hyl17, rfl, rfl, rfl⟩; refine ⟨trivial, ?_⟩
          refine sap rfl uy74 (by omega) <| ldRow (xs := yx17) 3 hky17 hyl17 (by decide) rfl rfl rfl ty74 <| fad rfl uy76 rfl ty74.sz <| stp 1 6 _ (pt (⟨yx17, hyl17⟩ : (Arr UInt8 32))) rfl rfl rfl rfl rfl rfl ty74 ⟨trivial, ?_⟩
          refine jn <| e_in <| e_then <| c_seq <| csr <| mvp rfl <| nlc rfl <| fad rfl uy137 rfl ty4.sz <| ldp 2 2 _ rfl rfl rfl rfl ty4 <| mvb rfl <| g_off rfl rfl rfl rfl <| g_off rfl rfl rfl rfl <| g_off rfl rfl rfl rfl <| g_off rfl rfl rfl rfl <| g_off rfl rfl rfl rfl <| g_off rfl rfl rfl rfl <| g_off rfl rfl rfl rfl <| pkt (.bool _) rfl rfl <| jt <| c_true rfl <| c_seq <| c_dr [_, _, _, _, _, _, _] [] [(0, 0), (1, 0), (2, 0), (3, 0), (4, 0), (5, 1), (6, 0), (7, 0)] follows (by kernel_rfl) calm_body (keepS [1, 2, 3, 4, 5, 6, 7] rfl) <| bld [pt (0 : Int), pt ([] : Str), p1 (.slice none 0 0), pt (⟨0⟩ : F64), pt (⟨0⟩ : F64), pt (0 : UInt64), pt (zarr : (Arr UInt8 32))] [] _ uy76 (lay76 _ uy76) z76 rfl rfl rfl <| mvp rfl <| nlc rfl <| fad rfl uy137 rfl ty3.sz <| ldp 1 1 _ rfl rfl rfl rfl ty3 <| stw 0 _ [pt (0 : Int), pt ([] : Str), p1 (.slice none 0 0), pt (⟨0⟩ : F64), pt (⟨0⟩ : F64), pt (0 : UInt64), pt (zarr : (Arr UInt8 32))] rfl rfl rfl rfl ty76 ⟨keepI [1, 2, 3, 4, 5, 6, 7] rfl, ?_⟩
          refine agi rfl <| agi rfl <| jt <| c_ret ?_
          exact j_d (own0 := []) (ro0 := [tPow10 9, tDb64 11, tIf 7 eu ev, tIf 8 ru rv]) (.inl rfl) rfl (hr3 Tryz.results42 (rvc (p := pa [pt (0 : Int), pt ([] : Str), p1 (.slice none 0 0), pt (⟨0⟩ : F64), pt (⟨0⟩ : F64), pt (0 : UInt64), pt (zarr : (Arr UInt8 32))]) 0 rfl rfl rfl ty76) (rvt (v := (.int _ _)) rfl) (rvt (v := (.int _ _)) rfl)) [0, 1, 2, 3] [_, _, _, _] rfl (by kernel_rfl) rfl (.inr ⟨_, parse_file_f1 (by assumption) htx14 hnm15, rfl, rfl, rfl⟩)
        ·refine ⟨trivial, ?_⟩
         refine fad rfl uy76 rfl ty3.sz <| stp 1 0 _ (pt (6 : Int)) rfl rfl rfl rfl rfl rfl ty3 ⟨trivial, ?_⟩
         refine fad rfl uy76 rfl ty9.sz <| stp 1 1 _ (pt tt14) rfl rfl rfl rfl rfl rfl ty9 ⟨trivial, ?_⟩
         refine jsr <| mvp rfl <| cal (number_bad b10 s tq14 (by omega) (by omega) (0 : UInt64) (1099511627776 : UInt64)) [2] [0, 1] [_, _] rfl rfl rfl (by kernel_rfl) impl_nil rfl ?_; rintro _ _ _ ⟨nn18, rfl, rfl, rfl⟩; refine ⟨trivial, ?_⟩
         refine fad rfl uy76 rfl ty72.sz <| stp 1 5 _ (pt nn18) rfl rfl rfl rfl rfl rfl ty72 ⟨trivial, ?_⟩
         refine jr <| mvp rfl <| cal (bytes_bad b10 s tq14 (by omega) (by omega) 32 (by omega) (by omega)) [2] [0, 1] [_, _] rfl rfl rfl (by kernel_rfl) impl_nil rfl ?_; rintro _ _ _ ⟨yb19, yx19, hky19, hyl19, rfl, rfl, rfl⟩; refine ⟨trivial, ?_⟩
         refine sap rfl uy74 (by omega) <| ldRow (xs := yx19) 3 hky19 hyl19 (by decide) rfl rfl rfl ty74 <| fad rfl uy76 rfl ty74.sz <| stp 1 6 _ (pt (⟨yx19, hyl19⟩ : (Arr UInt8 32))) rfl rfl rfl rfl rfl rfl ty74 ⟨trivial, ?_⟩
         refine jn <| e_in <| e_then <| c_seq <| csr <| mvp rfl <| nlc rfl <| fad rfl uy137 rfl ty4.sz <| ldp 2 2 _ rfl rfl rfl rfl ty4 <| mvb rfl <| g_off rfl rfl rfl rfl <| g_off rfl rfl rfl rfl <| g_off rfl rfl rfl rfl <| g_off rfl rfl rfl rfl <| g_off rfl rfl rfl rfl <| g_off rfl rfl rfl rfl <| g_off rfl rfl rfl rfl <| pkt (.bool _) rfl rfl <| jt <| c_true rfl <| c_seq <| c_dr [_, _, _, _, _, _, _] [] [(0, 0), (1, 0), (2, 0), (3, 0), (4, 0), (5, 1), (6, 0), (7, 0)] follows (by kernel_rfl) calm_body (keepS [1, 2, 3, 4, 5, 6, 7] rfl) <| bld [pt (0 : Int), pt ([] : Str), p1 (.slice none 0 0), pt (⟨0⟩ : F64), pt (⟨0⟩ : F64), pt (0 : UInt64), pt (zarr : (Arr UInt8 32))] [] _ uy76 (lay76 _ uy76) z76 rfl rfl rfl <| mvp rfl <| nlc rfl <| fad rfl uy137 rfl ty3.sz <| ldp 1 1 _ rfl rfl rfl rfl ty3 <| stw 0 _ [pt (0 : Int), pt ([] : Str), p1 (.slice none 0 0), pt (⟨0⟩ : F64), pt (⟨0⟩ : F64), pt (0 : UInt64), pt (zarr : (Arr UInt8 32))] rfl rfl rfl rfl ty76 ⟨keepI [1, 2, 3, 4, 5, 6, 7] rfl, ?_⟩
         refine agi rfl <| agi rfl <| jt <| c_ret ?_
         exact j_d (own0 := []) (ro0 := [tPow10 9, tDb64 11, tIf 7 eu ev, tIf 8 ru rv]) (.inl rfl) rfl (hr3 Tryz.results42 (rvc (p := pa [pt (0 : Int), pt ([] : Str), p1 (.slice none 0 0), pt (⟨0⟩ : F64), pt (⟨0⟩ : F64), pt (0 : UInt64), pt (zarr : (Arr UInt8 32))]) 0 rfl rfl rfl ty76) (rvt (v := (.int _ _)) rfl) (rvt (v := (.int _ _)) rfl)) [0, 1, 2, 3] [_, _, _, _] rfl (by kernel_rfl) rfl (.inr ⟨_, parse_file_f0 (by assumption) htx14, rfl, rfl, rfl⟩)
       ·replace h13 := of_decide_eq_false h13
        refine c_reg <| mvp rfl <| mvp rfl <| nlc rfl <| fad rfl uy137 rfl ty3.sz <| stp 1 1 _ (pt (0 : Int)) rfl rfl rfl rfl rfl rfl ty3 ⟨trivial, ?_⟩
        refine nlc rfl <| fad rfl uy137 rfl ty4.sz <| stp 1 2 _ (p1 (.bool true)) rfl rfl rfl rfl rfl rfl ty4 ⟨trivial, ?_⟩
        refine jn <| e_in <| e_then <| c_seq <| csr <| mvp rfl <| nlc rfl <| fad rfl uy137 rfl ty4.sz <| ldp 1 2 _ rfl rfl rfl rfl ty4 <| mvb rfl <| g_off rfl rfl rfl rfl <| g_off rfl rfl rfl rfl <| g_off rfl rfl rfl rfl <| g_off rfl rfl rfl rfl <| g_off rfl rfl rfl rfl <| g_off rfl rfl rfl rfl <| g_off rfl rfl rfl rfl <| pkt (.bool _) rfl rfl <| jt <| c_true rfl <| c_seq <| c_dr [_, _, _, _, _, _] [] [(0, 0), (1, 0), (2, 0), (3, 0), (4, 0), (5, 1), (6, 0), (7, 0)] follows (by kernel_rfl) calm_body (keepS [1, 2, 3, 4, 5, 6] rfl) <| bld [pt (0 : Int), pt ([] : Str), p1 (.slice none 0 0), pt (⟨0⟩ : F64), pt (⟨0⟩ : F64), pt (0 : UInt64), pt (zarr : (Arr UInt8 32))] [] _ uy76 (lay76 _ uy76) z76 rfl rfl rfl <| mvp rfl <| nlc rfl <| fad rfl uy137 rfl ty3.sz <| ldp 0 1 _ rfl rfl rfl rfl ty3 <| stw 0 _ [pt (0 : Int), pt ([] : Str), p1 (.slice none 0 0), pt (⟨0⟩ : F64), pt (⟨0⟩ : F64), pt (0 : UInt64), pt (zarr : (Arr UInt8 32))] rfl rfl rfl rfl ty76 ⟨keepI [1, 2, 3, 4, 5, 6] rfl, ?_⟩
        refine agi rfl <| agi rfl <| jt <| c_ret ?_
        exact j_d (own0 := []) (ro0 := [tPow10 9, tDb64 11, tIf 7 eu ev, tIf 8 ru rv]) (.inl rfl) rfl (hr3 Tryz.results42 (rvc (p := pa [pt (0 : Int), pt ([] : Str), p1 (.slice none 0 0), pt (⟨0⟩ : F64), pt (⟨0⟩ : F64), pt (0 : UInt64), pt (zarr : (Arr UInt8 32))]) 0 rfl rfl rfl ty76) (rvt (v := (.int _ _)) rfl) (rvt (v := (.int _ _)) rfl)) [0, 1, 2] [_, _, _] rfl (by kernel_rfl) rfl (.inr ⟨0, parse_none (by assumption) (by assumption) (by assumption) (by assumption) (by assumption) (by assumption) (by assumption), rfl, rfl, rfl⟩)
end Go.Proofs.YtakbbpahfclgnaaGreatDoor
namespace Go.PW
open Go
def hexu (c : UInt8) : UInt64 := UInt64.ofNat (hexv c)
theorem hexu_nat (c : UInt8) : (hexu c).toNat = hexv c := by unfold hexu; rw [UInt64.toNat_ofNat']; have := hexv_le c; omega
theorem u8_sub {c d : UInt8} (h : d.toNat ≤ c.toNat) : (c - d).toNat = c.toNat - d.toNat := UInt8.toNat_sub_of_le _ _ (UInt8.le_iff_toNat_le.2 h)
theorem hexu_d {c : UInt8} (h1 : 48 ≤ c.toNat) (h2 : c.toNat ≤ 57) : UInt64.ofNat (c - 48).toNat = hexu c := by
  unfold hexu hexv; rw [if_pos ⟨h1, h2⟩, u8_sub (d := 48) h1]; rfl
theorem hexu_l {c : UInt8} (h1 : 97 ≤ c.toNat) (h2 : c.toNat ≤ 102) : UInt64.ofNat (c - 97).toNat + 10 = hexu c := by
  unfold hexu hexv; rw [if_neg (by omega), if_pos ⟨h1, h2⟩, u8_sub (d := 97) h1]
  apply UInt64.toNat_inj.1
  rw [UInt64.toNat_add, UInt64.toNat_ofNat', UInt64.toNat_ofNat']
  show ((c.toNat - 97) % 2 ^ 64 + 10) % 2 ^ 64 = (c.toNat - 87) % 2 ^ 64
  omega
theorem hexu_o {c : UInt8} (h1 : ¬(48 ≤ c.toNat ∧ c.toNat ≤ 57)) (h2 : ¬(97 ≤ c.toNat ∧ c.toNat ≤ 102)) : (16 : UInt64) = hexu c := by
  unfold hexu hexv; rw [if_neg h1, if_neg h2]; rfl
theorem take_suc {w : Str} {i : Nat} (h : i < w.length) : w.take (i + 1) = w.take i ++ [List.getD w i 0] := by
  rw [List.take_succ_eq_append_getElem h]; simp [List.getD, h]
theorem getD_mem {w : Str} {i : Nat} (h : i < w.length) : List.getD w i 0 ∈ w := by simp [List.getD, h]
structure NB (w : Str) (i : Nat) (n : UInt64) : Prop where
  le : i ≤ w.length
  i18 : i ≤ 18
  val : n.toNat = valN 10 (w.take i)
  lt : n.toNat < 10 ^ i
theorem NB.start (w : Str) : NB w 0 0 := ⟨Nat.zero_le _, by omega, by simp [valN], by simp⟩
theorem NB.small {w : Str} {i : Nat} {n : UInt64} (h : NB w i n) : n.toNat < 10 ^ 18 := Nat.lt_of_lt_of_le h.lt (Nat.pow_le_pow_right (by omega) h.i18)
theorem NB.go {w : Str} {i : Nat} {n : UInt64} (h : NB w i n) (hi : i < w.length) (h1 : 48 ≤ (List.getD w i 0).toNat) (h2 : (List.getD w i 0).toNat ≤ 57) (h3 : i < 18) : NB w (i + 1) (n * 10 + UInt64.ofNat (List.getD w i 0 - 48).toNat) := by
  have hs := h.small
  have hl := h.lt
  have e : (n * 10 + UInt64.ofNat (List.getD w i 0 - 48).toNat).toNat = n.toNat * 10 + ((List.getD w i 0).toNat - 48) := by
    rw [UInt64.toNat_add, UInt64.toNat_mul, UInt64.toNat_ofNat', u8_sub (d := 48) h1]
    show (n.toNat * 10 % 2 ^ 64 + ((List.getD w i 0).toNat - 48) % 2 ^ 64) % 2 ^ 64 = _
    omega
  refine ⟨hi, by omega, ?_, ?_⟩
  · rw [e, take_suc hi, valN_app, ← h.val]; unfold dgv; rw [if_pos (by omega)]
  · rw [e, Nat.pow_succ]; omega
theorem fmt_dig {k : Nat} {x : UInt8} (h : x ∈ fmtN 10 k) : 48 ≤ x.toNat ∧ x.toNat ≤ 57 := by
  obtain ⟨d, hd, rfl⟩ := digs_mem (by omega) (by omega) _ _ _ h
  unfold dch; rw [if_pos hd, UInt8.toNat_ofNat']; omega
theorem NB.no {w : Str} {i k m : Nat} {n : UInt64} (_ : NB w i n) (hi : i < w.length) (hc : (List.getD w i 0).toNat < 48 ∨ 57 < (List.getD w i 0).toNat ∨ 18 ≤ i) (hm : m < 1000000000000000000) (hp : pnum 10 w = some k) : ¬ k ≤ m := by
  intro hk
  have e := pnum_some hp
  have hd := fmt_dig (k := k) (x := List.getD w i 0) (by rw [← e]; exact getD_mem hi)
  rcases hc with c | c | c
  · omega
  · omega
  · have h18 : ndg 10 64 k ≤ 18 := ndg_bound (by omega) (by omega) (by omega)
    have hl : w.length ≤ 18 := by rw [e]; unfold fmtN; rw [digs_length]; exact h18
    omega
theorem NB.fin {w : Str} {i : Nat} {n : UInt64} (h : NB w i n) (hi : ¬ i < w.length) : valN 10 w = n.toNat := by
  rw [h.val, List.take_of_length_le (by omega)]
theorem NB.yes {w : Str} {i : Nat} {n : UInt64} (h : NB w i n) (hi : ¬ i < w.length) (hf : fmtN 10 n.toNat = w) : pnum 10 w = some n.toNat := by
  unfold pnum; rw [h.fin hi, if_pos hf]
theorem NB.bad {w : Str} {i k m : Nat} {n : UInt64} (h : NB w i n) (hi : ¬ i < w.length) (hf : ¬(n.toNat ≤ m ∧ fmtN 10 n.toNat = w)) (hp : pnum 10 w = some k) : ¬ k ≤ m := by
  unfold pnum at hp
  rw [h.fin hi] at hp
  by_cases e : fmtN 10 n.toNat = w
  · rw [if_pos e] at hp; cases hp; exact fun hk => hf ⟨hk, e⟩
  · rw [if_neg e] at hp; cases hp
structure XB (w : Str) (i : Nat) (n : UInt64) : Prop where
  le : i ≤ w.length
  i16 : i ≤ 16
  val : n.toNat = hval w i
  dig : ∀ j, j < i → hexv (List.getD w j 0) < 16
  lt : n.toNat < 16 ^ i
theorem XB.start (w : Str) : XB w 0 0 := ⟨Nat.zero_le _, by omega, by simp [hval], fun j hj => by omega, by simp⟩
theorem XB.go {w : Str} {i : Nat} {n : UInt64} (h : XB w i n) (hi : i < w.length) (h1 : (hexu (List.getD w i 0)).toNat ≤ 15) (h3 : i < 16) : XB w (i + 1) (n * 16 + hexu (List.getD w i 0)) := by
  have hl := h.lt
  have hx := hexu_nat (List.getD w i 0)
  have h15 : n.toNat < 16 ^ 15 := Nat.lt_of_lt_of_le hl (Nat.pow_le_pow_right (by omega) (by omega))
  have e : (n * 16 + hexu (List.getD w i 0)).toNat = n.toNat * 16 + hexv (List.getD w i 0) := by
    rw [UInt64.toNat_add, UInt64.toNat_mul, hx]
    show (n.toNat * 16 % 2 ^ 64 + hexv (List.getD w i 0)) % 2 ^ 64 = _
    omega
  refine ⟨hi, by omega, by rw [e, hval_step hi, ← h.val], fun j hj => ?_, by rw [e, Nat.pow_succ]; omega⟩
  rcases Nat.lt_succ_iff_lt_or_eq.1 hj with hj | hj
  · exact h.dig j hj
  · subst hj; omega
theorem XB.no {w : Str} {i : Nat} {n : UInt64} (_ : XB w i n) (hi : i < w.length) (hc : 15 < (hexu (List.getD w i 0)).toNat ∨ 16 ≤ i) : ¬(w.length = 2 * 8 ∧ hexok w = true) := by
  intro ⟨h1, h2⟩
  have := hexok_get h2 hi
  have hx := hexu_nat (List.getD w i 0)
  omega
theorem XB.fin {w : Str} {i : Nat} {n : UInt64} (h : XB w i n) (hi : ¬ i < w.length) (hl : w.length = 16) : w.length = 2 * 8 ∧ hexok w = true ∧ (⟨n⟩ : F64) = degB w := by
  have hi' : i = 16 := by have := h.le; omega
  subst hi'
  exact ⟨hl, hexok_of fun j hj => h.dig j (by omega), degB_of hl h.val⟩
structure KB (w : Str) (i : Nat) (k : Key) : Prop where
  i32 : i ≤ 32
  dig : ∀ j, j < 2 * i → hexv (List.getD w j 0) < 16
  val : ∀ j, j < i → List.getD k.l j 0 = hbyte w 64 j
theorem KB.start (w : Str) : KB w 0 zarr := ⟨by omega, fun j hj => by omega, fun j hj => by omega⟩
theorem getD_set (l : Str) (i j : Nat) (x : UInt8) (h : i < l.length) : List.getD (l.set i x) j 0 = if j = i then x else List.getD l j 0 := by
  simp only [List.getD, List.getElem?_set]
  by_cases e : i = j
  · subst e; simp [h]
  · rw [if_neg e, if_neg (fun h => e h.symm)]
theorem KB.go {w : Str} {i : Nat} {k : Key} (h : KB w i k) (hi : i < 32) (h0 : (hexu (List.getD w (2 * i) 0)).toNat ≤ 15) (h1 : (hexu (List.getD w (2 * i + 1) 0)).toNat ≤ 15) :
    KB w (i + 1) (Arr.set k i (UInt8.ofNat (hexu (List.getD w (2 * i) 0) * 16 + hexu (List.getD w (2 * i + 1) 0)).toNat)) := by
  have e0 := hexu_nat (List.getD w (2 * i) 0)
  have e1 := hexu_nat (List.getD w (2 * i + 1) 0)
  have e : (hexu (List.getD w (2 * i) 0) * 16 + hexu (List.getD w (2 * i + 1) 0)).toNat = hexv (List.getD w (2 * i) 0) * 16 + hexv (List.getD w (2 * i + 1) 0) := by
    rw [UInt64.toNat_add, UInt64.toNat_mul, e0, e1]
    show (hexv (List.getD w (2 * i) 0) * 16 % 2 ^ 64 + hexv (List.getD w (2 * i + 1) 0)) % 2 ^ 64 = _
    omega
  refine ⟨hi, fun j hj => ?_, fun j hj => ?_⟩
  · by_cases c0 : j = 2 * i
    · subst c0; omega
    by_cases c1 : j = 2 * i + 1
    · subst c1; omega
    exact h.dig j (by omega)
  · rw [e]
    show List.getD (k.l.set i _) j 0 = _
    rw [getD_set _ _ _ _ (by rw [k.h]; exact hi)]
    by_cases c : j = i
    · subst c; rw [if_pos rfl]; unfold hbyte; rw [if_pos (by omega)]
    · rw [if_neg c]; exact h.val j (by omega)
theorem KB.no {w : Str} {i : Nat} (hl : w.length = 64) (hi : i < 32) (hc : 15 < (hexu (List.getD w (2 * i) 0)).toNat ∨ 15 < (hexu (List.getD w (2 * i + 1) 0)).toNat) : ¬(w.length = 2 * 32 ∧ hexok w = true) := by
  intro ⟨_, h2⟩
  have := hexok_get h2 (i := 2 * i) (by omega)
  have := hexok_get h2 (i := 2 * i + 1) (by omega)
  have e0 := hexu_nat (List.getD w (2 * i) 0)
  have e1 := hexu_nat (List.getD w (2 * i + 1) 0)
  omega
theorem KB.fin {w : Str} {i : Nat} {k : Key} (h : KB w i k) (hl : w.length = 64) (hi : ¬ i < 32) : w.length = 2 * 32 ∧ hexok w = true ∧ k = mkKey (hexb w 32) := by
  have hi' : i = 32 := by have := h.i32; omega
  subst hi'
  refine ⟨hl, hexok_of fun j hj => h.dig j (by omega), ?_⟩
  rw [mkKey_hex]
  apply Arr.ext
  show k.l = hexb w 32
  apply List.ext_getElem (by rw [k.h]; exact (hrow_length _ _ _).symm)
  intro j h1 h2
  have hj : j < 32 := by rw [k.h] at h1; exact h1
  have a := h.val j hj
  have b : List.getD (hexb w 32) j 0 = hbyte w (2 * 32) j := by unfold hexb; exact hrow_get hj
  rw [← b] at a
  simpa [List.getD, h1, h2] using a
def qend (s : Str) (a : Nat) : Nat := if a < s.length ∧ List.getD s a 0 = 34 ∧ qstop s (a + 1) < s.length then qstop s (a + 1) + 1 else a
theorem qend_no {s : Str} {a : Nat} (h : ¬(a < s.length ∧ List.getD s a 0 = 34)) : qend s a = a := if_neg fun hh => h ⟨hh.1, hh.2.1⟩
theorem qend_at {s : Str} {a i : Nat} (h1 : a < s.length) (h2 : List.getD s a 0 = 34) (hq : qstop s i = qstop s (a + 1)) (hi : i < s.length) (hc : List.getD s i 0 = 34) : i + 1 = qend s a := by
  have : qstop s i = i := qstop_end fun h => h.2 hc
  unfold qend; rw [← hq, this, if_pos ⟨h1, h2, hi⟩]
theorem qend_out {s : Str} {a i : Nat} (hq : qstop s i = qstop s (a + 1)) (hi : ¬ i < s.length) : qend s a = a := by
  have : qstop s i = i := qstop_end fun h => hi h.1
  unfold qend; rw [← hq, this, if_neg fun h => hi h.2.2]
theorem qend_le {s : Str} {a : Nat} (h : a ≤ s.length) : a ≤ qend s a ∧ qend s a ≤ s.length := by
  unfold qend
  have := qstop_ge s.length s (a + 1) (by omega)
  split <;> omega
theorem qend_yes {s : Str} {a : Nat} (h : qend s a ≠ a) : a < s.length ∧ List.getD s a 0 = 34 ∧ qstop s (a + 1) < s.length ∧ qend s a = qstop s (a + 1) + 1 ∧ a + 2 ≤ qend s a ∧ List.take (qend s a - a) (List.drop a s) = [34] ++ qin s a ++ [34] := by
  unfold qend at h ⊢
  by_cases c : a < s.length ∧ List.getD s a 0 = 34 ∧ qstop s (a + 1) < s.length
  · rw [if_pos c]
    have hg := qstop_ge s.length s (a + 1) (by omega)
    have hat := qstop_at s.length s (a + 1) (by omega) c.2.2
    refine ⟨c.1, c.2.1, c.2.2, rfl, by omega, ?_⟩
    obtain ⟨q, hq⟩ : ∃ q, qstop s (a + 1) = a + 1 + q := ⟨qstop s (a + 1) - (a + 1), by omega⟩
    have hlt := c.2.2
    unfold qin
    rw [hq] at hat hlt ⊢
    rw [show a + 1 + q + 1 - a = q + 1 + 1 by omega, show a + 1 + q - (a + 1) = q by omega, List.drop_eq_getElem_cons c.1, List.take_succ_cons, List.take_succ_eq_append_getElem (by rw [List.length_drop]; omega), List.getElem_drop]
    have e1 : s[a]'c.1 = 34 := by have := c.2.1; simpa [List.getD, c.1] using this
    have e2 : s[a + 1 + q]'hlt = 34 := by simpa [List.getD, hlt] using hat
    rw [e1, e2]; rfl
  · rw [if_neg c] at h; exact absurd rfl h
end Go.PW
namespace Go.PW
open Go
theorem drop_cons_of {q : Str} {i : Nat} {x : UInt8} {r : Str} (h : q.drop i = x :: r) : i < q.length ∧ List.getD q i 0 = x ∧ q.drop (i + 1) = r := by
  have hl : i < q.length := Nat.lt_of_not_le fun hn => by rw [List.drop_of_length_le hn] at h; cases h
  rw [List.drop_eq_getElem_cons hl] at h
  injection h with h1 h2
  exact ⟨hl, by simpa [List.getD, hl] using h1, h2⟩
theorem wlen_step {s : Str} {i : Nat} (h : i < s.length) (hc : ¬ List.getD s i 0 = 32) : wlen s i = wlen s (i + 1) + 1 := by
  have e : List.getD s i 0 = s[i] := by simp [List.getD, h]
  rw [e] at hc
  unfold wlen idxN
  rw [List.drop_eq_getElem_cons h, List.takeWhile_cons_of_pos (by simpa using hc)]; rfl
theorem wlen_end {s : Str} {i : Nat} (h : ¬(i < s.length ∧ ¬ List.getD s i 0 = 32)) : wlen s i = 0 := by
  unfold wlen idxN
  by_cases hl : i < s.length
  · have hc : List.getD s i 0 = 32 := Decidable.byContradiction fun hn => h ⟨hl, hn⟩
    have e : List.getD s i 0 = s[i] := by simp [List.getD, hl]
    rw [e] at hc
    rw [List.drop_eq_getElem_cons hl, List.takeWhile_cons_of_neg (by simpa using hc)]; rfl
  · rw [List.drop_of_length_le (by omega)]; rfl
def encv (c : Nat) : Str := if vrune c = true then enc8 c else []
theorem encv_len (c : Nat) : (encv c).length ≤ 4 := by
  unfold encv
  split
  · exact (enc8_len c).2
  · simp
theorem vrune_lt {c : Nat} (h : vrune c = true) : c ≤ 1114111 := by have := vrune_iff.1 h; omega
theorem ub {n : UInt64} {k : Nat} (h : n.toNat = k) : UInt8.ofNat n.toNat = UInt8.ofNat k := by rw [h]
theorem encv_1 {n : UInt64} (h : n.toNat < 128) : [UInt8.ofNat n.toNat] = encv n.toNat := by
  unfold encv enc8; rw [if_pos (vrune_iff.2 (by omega)), if_pos h]
theorem encv_0 {n : UInt64} (h : ¬(n.toNat < 55296)) (h2 : n.toNat ≤ 57343 ∨ 1114111 < n.toNat) : ([] : Str) = encv n.toNat := by
  unfold encv; rw [if_neg (fun hv => by have := vrune_iff.1 hv; omega)]
theorem encv_2 {n : UInt64} (h0 : ¬ n.toNat < 128) (h : n.toNat < 2048) : [UInt8.ofNat (192 + n / 64).toNat, UInt8.ofNat (128 + n % 64).toNat] = encv n.toNat := by
  unfold encv enc8; rw [if_pos (vrune_iff.2 (by omega)), if_neg h0, if_pos h]
  rw [ub (k := 192 + n.toNat / 64) (by rw [UInt64.toNat_add, UInt64.toNat_div]; show (192 + n.toNat / 64) % 2 ^ 64 = _; omega), ub (k := 128 + n.toNat % 64) (by rw [UInt64.toNat_add, UInt64.toNat_mod]; show (128 + n.toNat % 64) % 2 ^ 64 = _; omega)]
theorem encv_3 {n : UInt64} (h0 : ¬ n.toNat < 2048) (hv : n.toNat < 55296 ∨ 57343 < n.toNat) (h : n.toNat < 65536) : [UInt8.ofNat (224 + n / 4096).toNat, UInt8.ofNat (128 + n / 64 % 64).toNat, UInt8.ofNat (128 + n % 64).toNat] = encv n.toNat := by
  unfold encv enc8; rw [if_pos (vrune_iff.2 (by omega)), if_neg (by omega), if_neg h0, if_pos h]
  rw [ub (k := 224 + n.toNat / 4096) (by rw [UInt64.toNat_add, UInt64.toNat_div]; show (224 + n.toNat / 4096) % 2 ^ 64 = _; omega), ub (k := 128 + n.toNat / 64 % 64) (by rw [UInt64.toNat_add, UInt64.toNat_mod, UInt64.toNat_div]; show (128 + n.toNat / 64 % 64) % 2 ^ 64 = _; omega), ub (k := 128 + n.toNat % 64) (by rw [UInt64.toNat_add, UInt64.toNat_mod]; show (128 + n.toNat % 64) % 2 ^ 64 = _; omega)]
theorem encv_4 {n : UInt64} (h0 : ¬ n.toNat < 65536) (hv : n.toNat ≤ 1114111) : [UInt8.ofNat (240 + n / 262144).toNat, UInt8.ofNat (128 + n / 4096 % 64).toNat, UInt8.ofNat (128 + n / 64 % 64).toNat, UInt8.ofNat (128 + n % 64).toNat] = encv n.toNat := by
  unfold encv enc8; rw [if_pos (vrune_iff.2 (by omega)), if_neg (by omega), if_neg (by omega), if_neg h0]
  rw [ub (k := 240 + n.toNat / 262144) (by rw [UInt64.toNat_add, UInt64.toNat_div]; show (240 + n.toNat / 262144) % 2 ^ 64 = _; omega), ub (k := 128 + n.toNat / 4096 % 64) (by rw [UInt64.toNat_add, UInt64.toNat_mod, UInt64.toNat_div]; show (128 + n.toNat / 4096 % 64) % 2 ^ 64 = _; omega), ub (k := 128 + n.toNat / 64 % 64) (by rw [UInt64.toNat_add, UInt64.toNat_mod, UInt64.toNat_div]; show (128 + n.toNat / 64 % 64) % 2 ^ 64 = _; omega), ub (k := 128 + n.toNat % 64) (by rw [UInt64.toNat_add, UInt64.toNat_mod]; show (128 + n.toNat % 64) % 2 ^ 64 = _; omega)]
theorem rq_head {q : Str} {i : Nat} {t : Str} (hu : u8ok t = true) (hd : q.drop i = qbody t ++ [34]) (hi : i + 1 < q.length) :
    ∃ c r, u8ok r = true ∧ vrune c = true ∧ t = enc8 c ++ r ∧ q.drop i = qstep c ++ (qbody r ++ [34]) := by
  have hl : 0 < t.length := Nat.pos_of_ne_zero fun h0 => by
    rw [qbody_nil h0] at hd
    have := congrArg List.length hd
    rw [List.length_drop] at this; simp at this; omega
  have hs := u8ok_step hu hl
  have he := chr_enc hs hl
  refine ⟨chr t, t.drop (u8step t), u8ok_rest hu hl, he.2, by rw [he.1]; exact (List.take_append_drop _ _).symm, ?_⟩
  rw [hd, qbody_go hs hl, List.append_assoc]
theorem qs_cases (c : Nat) : (∃ x, qstep c = [92, x] ∧ (x = 34 ∨ x = 92) ∧ enc8 c = [x]) ∨ (∃ x, qstep c = [x] ∧ x ≠ 92 ∧ enc8 c = [x]) ∨ qstep c = 92 :: 117 :: 123 :: (fmtN 16 c ++ [125]) := by
  by_cases h : c = 34 ∨ c = 92
  · refine .inl ⟨UInt8.ofNat c, qstep_q h, ?_, ?_⟩
    · rcases h with h | h <;> subst h
      · exact .inl rfl
      · exact .inr rfl
    · unfold enc8; rw [if_pos (by omega)]
  by_cases h2 : 32 ≤ c ∧ c ≤ 126
  · refine .inr (.inl ⟨UInt8.ofNat c, qstep_p h h2, fun e => ?_, ?_⟩)
    · have := congrArg UInt8.toNat e
      rw [bn (by omega)] at this
      exact h (.inr this)
    · unfold enc8; rw [if_pos (by omega)]
  · exact .inr (.inr (by rw [qstep_u h h2]; rfl))
structure RQ (q out : Str) (i : Nat) : Prop where
  le : i ≤ q.length
  len : out.length ≤ 4 * i
  fwd : ∀ t, u8ok t = true → q = quoteS t → ∃ t', u8ok t' = true ∧ t = out ++ t' ∧ q.drop i = qbody t' ++ [34]
theorem RQ.start {q : Str} (h : 2 ≤ q.length) : RQ q [] 1 := ⟨by omega, by simp, fun t ht e => ⟨t, ht, rfl, by rw [e]; rfl⟩⟩
theorem RQ.one {q out : Str} {i : Nat} (h : RQ q out i) (hi : i + 1 < q.length) (hc : ¬ List.getD q i 0 = 92) : RQ q (out ++ List.take (i + 1 - i) (List.drop i q)) (i + 1) := by
  refine ⟨by omega, by have := h.len; simp; omega, fun t ht e => ?_⟩
  obtain ⟨t', hu, rfl, hd⟩ := h.fwd t ht e
  obtain ⟨c, r, hr, hv, rfl, hq⟩ := rq_head hu hd hi
  rcases qs_cases c with ⟨x, hx, hx2, hx3⟩ | ⟨x, hx, hx2, hx3⟩ | hx
  · rw [hx] at hq; exact absurd (drop_cons_of hq).2.1 hc
  · rw [hx] at hq
    have := drop_cons_of hq
    refine ⟨r, hr, ?_, this.2.2⟩
    rw [hq, hx3, show i + 1 - i = 1 by omega]; simp
  · rw [hx] at hq; exact absurd (drop_cons_of hq).2.1 hc
theorem RQ.two {q out : Str} {i : Nat} (h : RQ q out i) (hi : i + 1 < q.length) (hc : List.getD q i 0 = 92) (hn : ¬(i + 3 < q.length ∧ List.getD q (i + 1) 0 = 117 ∧ List.getD q (i + 1 + 1) 0 = 123)) :
    RQ q (out ++ List.take (i + 1 + 1 - (i + 1)) (List.drop (i + 1) q)) (i + 1 + 1) := by
  refine ⟨by omega, by have := h.len; simp; omega, fun t ht e => ?_⟩
  obtain ⟨t', hu, rfl, hd⟩ := h.fwd t ht e
  obtain ⟨c, r, hr, hv, rfl, hq⟩ := rq_head hu hd hi
  rcases qs_cases c with ⟨x, hx, hx2, hx3⟩ | ⟨x, hx, hx2, hx3⟩ | hx
  · rw [hx] at hq
    have h1 := drop_cons_of hq
    have h2 := drop_cons_of h1.2.2
    refine ⟨r, hr, ?_, h2.2.2⟩
    rw [h1.2.2, hx3, show i + 1 + 1 - (i + 1) = 1 by omega]; simp
  · rw [hx] at hq; exact absurd ((drop_cons_of hq).2.1.symm.trans hc) hx2
  · rw [hx] at hq
    have h1 := drop_cons_of hq
    have h2 := drop_cons_of h1.2.2
    have h3 := drop_cons_of h2.2.2
    have h4 : q.drop (i + 1 + 1 + 1) = fmtN 16 c ++ [125] ++ (qbody r ++ [34]) := h3.2.2
    have hl := congrArg List.length h4
    have hf := (fmtN_length 16 c).1
    simp only [List.length_drop, List.length_append, List.length_cons, List.length_nil] at hl
    exact absurd ⟨by omega, h2.2.1, h3.2.1⟩ hn
theorem RQ.fin {q out : Str} {i : Nat} (h : RQ q out i) (hi : ¬ i + 1 < q.length) {t : Str} (ht : u8ok t = true) (e : q = quoteS t) : t = out := by
  obtain ⟨t', hu, rfl, hd⟩ := h.fwd t ht e
  have hl := congrArg List.length hd
  rw [List.length_drop, List.length_append] at hl
  simp only [List.length_cons, List.length_nil] at hl
  have hq : (qbody t').length = 0 := by omega
  have ht0 : t'.length = 0 := by
    apply Decidable.byContradiction
    intro hn
    have hs := u8ok_step hu (by omega)
    rw [qbody_go hs (by omega), List.length_append] at hq
    rcases qs_cases (chr t') with ⟨x, hx, _⟩ | ⟨x, hx, _⟩ | hx <;> rw [hx] at hq <;> simp at hq
  rw [List.eq_nil_of_length_eq_zero ht0, List.append_nil]
theorem valN_mono (b : Nat) (hb : 1 ≤ b) (x y : Str) : valN b x ≤ valN b (x ++ y) := by
  unfold valN; rw [List.foldl_append]
  generalize List.foldl (fun a c => a * b + dgv c) 0 x = a
  induction y generalizing a with
  | nil => exact Nat.le_refl _
  | cons c r ih =>
    rw [List.foldl_cons]
    exact Nat.le_trans (by have := Nat.mul_le_mul_left a hb; omega) (ih _)
theorem hexv_dch : ∀ d, d < 16 → hexv (dch d) = d := by decide
structure RN (q out : Str) (i : Nat) (n : UInt64) : Prop where
  le : i + 1 ≤ q.length
  len : out.length ≤ 4 * i
  lt : n.toNat ≤ 268435472
  fwd : ∀ t, u8ok t = true → q = quoteS t → ∃ t' c k, u8ok t' = true ∧ vrune c = true ∧ t = out ++ (enc8 c ++ t') ∧ k ≤ (fmtN 16 c).length ∧ q.drop i = (fmtN 16 c).drop k ++ 125 :: (qbody t' ++ [34]) ∧ n.toNat = valN 16 ((fmtN 16 c).take k)
theorem RN.start {q out : Str} {i : Nat} (h : RQ q out i) (hi : i + 1 < q.length) (hc : List.getD q i 0 = 92) (hn : i + 3 < q.length ∧ List.getD q (i + 1) 0 = 117 ∧ List.getD q (i + 1 + 1) 0 = 123) : RN q out (i + 1 + 2) 0 := by
  refine ⟨by omega, by have := h.len; omega, by decide, fun t ht e => ?_⟩
  obtain ⟨t', hu, rfl, hd⟩ := h.fwd t ht e
  obtain ⟨c, r, hr, hv, rfl, hq⟩ := rq_head hu hd hi
  rcases qs_cases c with ⟨x, hx, hx2, hx3⟩ | ⟨x, hx, hx2, hx3⟩ | hx
  · rw [hx] at hq
    have h2 := drop_cons_of (drop_cons_of hq).2.2
    have : x = 117 := h2.2.1.symm.trans hn.2.1
    subst this
    rcases hx2 with h | h <;> cases h
  · rw [hx] at hq; exact absurd ((drop_cons_of hq).2.1.symm.trans hc) hx2
  · rw [hx] at hq
    have h3 := drop_cons_of (drop_cons_of (drop_cons_of hq).2.2).2.2
    exact ⟨r, c, 0, hr, hv, rfl, Nat.zero_le _, by rw [show i + 1 + 2 = i + 1 + 1 + 1 by omega, h3.2.2]; simp, by simp [valN]⟩
theorem RN.go {q out : Str} {i : Nat} {n : UInt64} (h : RN q out i n) (hi : i + 1 < q.length) (hc : ¬ List.getD q i 0 = 125) (hn : n.toNat < 16777216) : RN q out (i + 1) (n * 16 + hexu (List.getD q i 0)) := by
  have hx := hexu_nat (List.getD q i 0)
  have hxl := hexv_le (List.getD q i 0)
  have e : (n * 16 + hexu (List.getD q i 0)).toNat = n.toNat * 16 + hexv (List.getD q i 0) := by
    rw [UInt64.toNat_add, UInt64.toNat_mul, hx]
    show (n.toNat * 16 % 2 ^ 64 + hexv (List.getD q i 0)) % 2 ^ 64 = _
    omega
  refine ⟨by omega, by have := h.len; omega, by rw [e]; omega, fun t ht et => ?_⟩
  obtain ⟨t', c, k, hu, hv, rfl, hk, hd, hval⟩ := h.fwd t ht et
  have hkl : k < (fmtN 16 c).length := Nat.lt_of_not_le fun hle => by
    rw [List.drop_of_length_le hle] at hd
    exact hc (drop_cons_of hd).2.1
  rw [List.drop_eq_getElem_cons hkl] at hd
  have h1 := drop_cons_of hd
  refine ⟨t', c, k + 1, hu, hv, rfl, hkl, h1.2.2, ?_⟩
  have hg : List.getD (fmtN 16 c) k 0 = List.getD q i 0 := by rw [h1.2.1]; simp [List.getD, hkl]
  obtain ⟨d, hd16, hdd⟩ : ∃ d, d < 16 ∧ List.getD (fmtN 16 c) k 0 = dch d := digs_mem (by omega) (by omega) _ _ _ (getD_mem hkl)
  rw [e, take_suc hkl, valN_app, ← hval, ← hg, hdd, hexv_dch d hd16, dgv_dch d (by omega)]
theorem RN.fin {q out : Str} {i : Nat} {n : UInt64} (h : RN q out i n) (hs : ¬(i + 1 < q.length ∧ ¬ List.getD q i 0 = 125 ∧ n.toNat < 16777216)) : RQ q (out ++ encv n.toNat) (i + 1) := by
  refine ⟨h.le, by have := h.len; have := encv_len n.toNat; rw [List.length_append]; omega, fun t ht et => ?_⟩
  obtain ⟨t', c, k, hu, hv, rfl, hk, hd, hval⟩ := h.fwd t ht et
  have hcl := vrune_lt hv
  have hfull : valN 16 (fmtN 16 c) = c := valN_fmt (by omega) (by omega) (u64_pow (by omega) (by omega))
  have hkl : k = (fmtN 16 c).length := by
    apply Decidable.byContradiction
    intro hne
    have hlt : k < (fmtN 16 c).length := by omega
    have hl := congrArg List.length hd
    simp only [List.length_drop, List.length_append, List.length_cons, List.length_nil] at hl
    rw [List.drop_eq_getElem_cons hlt] at hd
    have h1 := drop_cons_of hd
    refine hs ⟨by omega, ?_, ?_⟩
    · rw [h1.2.1]; exact fmt16_mem (List.getElem_mem hlt)
    · have := valN_mono 16 (by omega) ((fmtN 16 c).take k) ((fmtN 16 c).drop k)
      rw [List.take_append_drop, hfull] at this
      omega
  subst hkl
  rw [List.take_length, hfull] at hval
  rw [List.drop_length] at hd
  refine ⟨t', hu, ?_, (drop_cons_of hd).2.2⟩
  unfold encv; rw [hval, if_pos hv, List.append_assoc]
theorem quote_iff {q t : Str} : quoteS t = [34] ++ q ++ [34] ↔ qbody t = q := by
  unfold quoteS
  constructor
  · intro h; exact List.append_cancel_left (List.append_cancel_right h)
  · intro h; rw [h]
end Go.PW
