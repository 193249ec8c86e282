/- Laws of an engine and of the program's functions, gathered. No condition. -/
import Derived.Test.YtakbbpahfclgnaaGreatDoorV3
import Derived.Lib.Bytealg
import Derived.Test.YtakbbpahfclgnaaGreatDoorProg
import Derived.WalkKit
import Derived.LaidEql
import Derived.Stop.Asserts
import Derived.RowKitTokens
open Go.Proofs.Tryz renaming underlying3 → uy3, underlying5 → uy5, underlying9 → uy9, underlying24 → uy24, underlying70 → uy70, underlying72 → uy72, underlying74 → uy74, underlying76 → uy76, underlying93 → uy93, underlying108 → uy108, underlying153 → uy153
set_option maxRecDepth 20000
set_option maxHeartbeats 4000000
namespace Go.Proofs.YtakbbpahfclgnaaGreatDoor
open Go Go.Proofs Go.PW
open Go.PW.Enc (enc val)
theorem digit_ct (c : UInt8) : Ct Tryz.prog 96 [.int .u8 (c.toNat : Int)] [] [] (fun v o r => v = .int .u64 ((hexu c).toNat : Int) ∧ o = [] ∧ r = []) := by
 refine ct_enter Tryz.func96 rfl Tryz.ntmps96 (by kernel_rfl) rfl fun w0 => ?_
 refine csr <| agi rfl <| jt <| c_seq <| csr <| mvi rfl <| cmp _ rfl rfl rfl <| mvb rfl <| jsplit 5 rfl (fun h1 => ?_) (fun h1 => ?_)
 ·replace h1 := of_decide_eq_true h1
  refine g_on rfl rfl rfl <| mvi rfl <| g_on rfl rfl rfl <| cmp _ rfl rfl rfl <| pkt (.bool _) rfl rfl <| jt <| c_cond rfl (fun h2 => ?_) (fun h2 => ?_)
  ·replace h2 := of_decide_eq_true h2
   refine csr <| mvi rfl <| subU8 (a := c) (b := (48 : UInt8)) rfl rfl <| cvNU64 (n := (c - (48 : UInt8)).toNat) rfl uy5 uy72 <| agi rfl <| jt <| c_ret ?_
   exact j_z (own0 := []) (ro0 := []) (.inl rfl) rfl (hr1 Tryz.results96 (rvt (v := (.int _ _)) rfl)) rfl (⟨congrArg (fun x : UInt64 => Value.int .u64 (x.toNat : Int)) (hexu_d (by omega) (by omega)), rfl, rfl⟩)
  ·replace h2 := of_decide_eq_false h2
   refine c_skip <| e_then <| c_seq <| csr <| mvi rfl <| cmp _ rfl rfl rfl <| mvb rfl <| jsplit 14 rfl (fun h3 => ?_) (fun h3 => ?_)
   ·replace h3 := of_decide_eq_true h3
    refine g_on rfl rfl rfl <| mvi rfl <| g_on rfl rfl rfl <| cmp _ rfl rfl rfl <| pkt (.bool _) rfl rfl <| jt <| c_cond rfl (fun h4 => ?_) (fun h4 => ?_)
    ·replace h4 := of_decide_eq_true h4
     refine csr <| mvi rfl <| subU8 (a := c) (b := (97 : UInt8)) rfl rfl <| cvNU64 (n := (c - (97 : UInt8)).toNat) rfl uy5 uy72 <| addU64 (a := (UInt64.ofNat ((c - (97 : UInt8)).toNat))) (b := (10 : UInt64)) rfl rfl <| agi rfl <| jt <| c_ret ?_
     exact j_z (own0 := []) (ro0 := []) (.inl rfl) rfl (hr1 Tryz.results96 (rvt (v := (.int _ _)) rfl)) rfl (⟨congrArg (fun x : UInt64 => Value.int .u64 (x.toNat : Int)) (hexu_l (by omega) (by omega)), rfl, rfl⟩)
    ·replace h4 := of_decide_eq_false h4
     refine c_skip <| e_then <| csr <| agi rfl <| jt <| c_ret ?_
     exact j_z (own0 := []) (ro0 := []) (.inl rfl) rfl (hr1 Tryz.results96 (rvt (v := (.int _ _)) rfl)) rfl (⟨congrArg (fun x : UInt64 => Value.int .u64 (x.toNat : Int)) (hexu_o (by omega) (by omega)), rfl, rfl⟩)
   ·replace h3 := of_decide_eq_false h3
    refine g_off rfl rfl rfl rfl <| g_off rfl rfl rfl rfl <| pkf (.bool _) rfl rfl <| jt <| c_false rfl <| c_skip <| e_then <| csr <| agi rfl <| jt <| c_ret ?_
    exact j_z (own0 := []) (ro0 := []) (.inl rfl) rfl (hr1 Tryz.results96 (rvt (v := (.int _ _)) rfl)) rfl (⟨congrArg (fun x : UInt64 => Value.int .u64 (x.toNat : Int)) (hexu_o (by omega) (by omega)), rfl, rfl⟩)
 ·replace h1 := of_decide_eq_false h1
  refine g_off rfl rfl rfl rfl <| g_off rfl rfl rfl rfl <| pkf (.bool _) rfl rfl <| jt <| c_false rfl <| c_skip <| e_then <| c_seq <| csr <| mvi rfl <| cmp _ rfl rfl rfl <| mvb rfl <| jsplit 14 rfl (fun h5 => ?_) (fun h5 => ?_)
  ·replace h5 := of_decide_eq_true h5
   refine g_on rfl rfl rfl <| mvi rfl <| g_on rfl rfl rfl <| cmp _ rfl rfl rfl <| pkt (.bool _) rfl rfl <| jt <| c_cond rfl (fun h6 => ?_) (fun h6 => ?_)
   ·replace h6 := of_decide_eq_true h6
    refine csr <| mvi rfl <| subU8 (a := c) (b := (97 : UInt8)) rfl rfl <| cvNU64 (n := (c - (97 : UInt8)).toNat) rfl uy5 uy72 <| addU64 (a := (UInt64.ofNat ((c - (97 : UInt8)).toNat))) (b := (10 : UInt64)) rfl rfl <| agi rfl <| jt <| c_ret ?_
    exact j_z (own0 := []) (ro0 := []) (.inl rfl) rfl (hr1 Tryz.results96 (rvt (v := (.int _ _)) rfl)) rfl (⟨congrArg (fun x : UInt64 => Value.int .u64 (x.toNat : Int)) (hexu_l (by omega) (by omega)), rfl, rfl⟩)
   ·replace h6 := of_decide_eq_false h6
    refine c_skip <| e_then <| csr <| agi rfl <| jt <| c_ret ?_
    exact j_z (own0 := []) (ro0 := []) (.inl rfl) rfl (hr1 Tryz.results96 (rvt (v := (.int _ _)) rfl)) rfl (⟨congrArg (fun x : UInt64 => Value.int .u64 (x.toNat : Int)) (hexu_o (by omega) (by omega)), rfl, rfl⟩)
  ·replace h5 := of_decide_eq_false h5
   refine g_off rfl rfl rfl rfl <| g_off rfl rfl rfl rfl <| pkf (.bool _) rfl rfl <| jt <| c_false rfl <| c_skip <| e_then <| csr <| agi rfl <| jt <| c_ret ?_
   exact j_z (own0 := []) (ro0 := []) (.inl rfl) rfl (hr1 Tryz.results96 (rvt (v := (.int _ _)) rfl)) rfl (⟨congrArg (fun x : UInt64 => Value.int .u64 (x.toNat : Int)) (hexu_o (by omega) (by omega)), rfl, rfl⟩)
theorem wordEnd_ct (s : Str) (p : Nat) (hs : s.length ≤ 140737488351232) (hp : p ≤ s.length) : Ct Tryz.prog 51 [strV s, .int .i64 (p : Int)] [] [] (fun v o r => v = .int .i64 ((p + wlen s p : Nat) : Int) ∧ o = [] ∧ r = []) := by
 refine ct_enter Tryz.func51 rfl Tryz.ntmps51 (by kernel_rfl) rfl fun w0 => ?_
 refine csr <| agi rfl <| jt <| c_seq <| c_block <| c_loop (σ := Nat) (fun i => i ≤ s.length ∧ i + wlen s i = p + wlen s p) (fun i => s.length - i) (fun i => [(1, .int .i64 (i : Int))]) (fun i => []) (fun i => []) [1, 5, 6, 7, 8, 9, 10, 11, 12, 13, 14, 15, 16] p (⟨hp, rfl⟩) ⟨rfl, trivial⟩ rfl rfl ?_
 rintro i g1 hI1
 try dsimp only at hI1 ⊢
 refine c_seq <| csr <| mvi rfl <| mvs rfl <| lenT (s := s) rfl uy9 <| cmp _ rfl rfl rfl <| mvb rfl <| jsplit 9 rfl (fun h1 => ?_) (fun h1 => ?_)
 ·replace h1 := of_decide_eq_true h1
  refine g_on rfl rfl rfl <| mvs rfl <| g_on rfl rfl rfl <| mvi rfl <| g_on rfl rfl rfl <| idxT (s := s) i rfl rfl uy9 rfl (by first | omega | (simp; done) | (simp; omega) | (simp at *; omega)) <| g_on rfl rfl rfl <| equ8 (a := (List.getD s i 0)) (b := (32 : UInt8)) _ rfl rfl rfl <| pkt (.bool _) rfl rfl <| jt <| c_cond rfl (fun h2 => ?_) (fun h2 => ?_)
  ·replace h2 := ndt h2
   refine c_skip <| e_then <| c_block <| c_reg <| mvi rfl <| addi rfl rfl rfl (by omega) <| agi rfl <| jn <| e_in ?_
   exact e_loop (i + 1) (⟨by omega, by have := wlen_step (s := s) (i := i) (by omega) (by assumption); omega⟩) (by (try dsimp only); omega) (⟨rfl, trivial⟩) rfl rfl rfl
  ·replace h2 := ndf h2
   refine c_exit rfl <| e_then <| csr <| mvi rfl <| agi rfl <| jt <| c_ret ?_
   exact j_z (own0 := []) (ro0 := []) (.inl rfl) rfl (hr1 Tryz.results51 (rvt (v := (.int _ _)) rfl)) rfl (⟨congrArg (Value.int _) (by have := wlen_end (s := s) (i := i) (fun hh => by first | omega | exact hh.2 (by assumption)); omega), rfl, rfl⟩)
 ·replace h1 := of_decide_eq_false h1
  refine g_off rfl rfl rfl rfl <| g_off rfl rfl rfl rfl <| g_off rfl rfl rfl rfl <| g_off rfl rfl rfl rfl <| pkf (.bool _) rfl rfl <| jt <| c_false rfl <| c_exit rfl <| e_then <| csr <| mvi rfl <| agi rfl <| jt <| c_ret ?_
  exact j_z (own0 := []) (ro0 := []) (.inl rfl) rfl (hr1 Tryz.results51 (rvt (v := (.int _ _)) rfl)) rfl (⟨congrArg (Value.int _) (by have := wlen_end (s := s) (i := i) (fun hh => by first | omega | exact hh.2 (by assumption)); omega), rfl, rfl⟩)
theorem rbegin_bad (b : Nat) (s : Str) (p k : Nat) : Ct Tryz.prog 88 [.pointer (some ⟨b, 0, none⟩)] [[(b, .cells (cat [pt s, p1 (.int .i64 ((p : Nat) : Int)), p1 (.int .i64 ((k : Nat) : Int))]) 108)]] [] (fun v o r => v = .int .i64 (-1) ∧ o = [[(b, .cells (cat [pt s, p1 (.int .i64 ((p : Nat) : Int)), p1 (.int .i64 ((k : Nat) : Int))]) 108)]] ∧ r = []) := by
 refine ct_enter Tryz.func88 rfl Tryz.ntmps88 (by kernel_rfl) rfl fun w0 => ?_
 refine csr <| agi rfl <| jt <| c_seq <| csr <| mvp rfl <| nlc rfl <| fad rfl uy108 rfl ty3.sz <| ldp 0 2 _ rfl rfl rfl rfl ty3 <| cmp true rfl rfl (by simp only [cmpV]; exact congrArg some (decide_eq_true (by omega))) <| jt <| c_true rfl <| csr <| agi rfl <| jt <| c_ret ?_
 exact j_end (own0 := [[(b, .cells (cat [pt s, p1 (.int .i64 ((p : Nat) : Int)), p1 (.int .i64 ((k : Nat) : Int))]) 108)]]) (ro0 := []) (.inl rfl) rfl (hr1 Tryz.results88 (rvt (v := (.int _ _)) rfl)) [0] [] [_] [] [] _ rfl rfl (by kernel_rfl) rfl impl_nil (⟨rfl, rfl, rfl⟩)
theorem rbegin_ct (b : Nat) (s : Str) (p : Nat) (hs : s.length ≤ 140737488351232) (hp : p ≤ s.length) : Ct Tryz.prog 88 [.pointer (some ⟨b, 0, none⟩)] [[(b, .cells (cat [pt s, p1 (.int .i64 ((p : Nat) : Int)), p1 (.int .i64 (-1))]) 108)]] [] (fun v o r => (blk s p = true ∧ v = .int .i64 ((p + 1 : Nat) : Int) ∧ o = [[(b, .cells (cat [pt s, p1 (.int .i64 ((p : Nat) : Int)), p1 (.int .i64 (-1))]) 108)]] ∧ r = []) ∨ (blk s p = false ∧ v = .int .i64 (-1) ∧ o = [[(b, .cells (cat [pt s, p1 (.int .i64 ((p : Nat) : Int)), p1 (.int .i64 ((p : Nat) : Int))]) 108)]] ∧ r = [])) := by
 refine ct_enter Tryz.func88 rfl Tryz.ntmps88 (by kernel_rfl) rfl fun w0 => ?_
 refine csr <| agi rfl <| jt <| c_seq <| csr <| mvp rfl <| nlc rfl <| fad rfl uy108 rfl ty3.sz <| ldp 0 2 _ rfl rfl rfl rfl ty3 <| cmp false rfl rfl rfl <| jt <| c_false rfl <| c_skip <| e_then <| c_seq <| c_seq <| c_dr [_] [] [(0, 0), (1, 0), (2, 0), (3, 0), (4, 0), (5, 0), (6, 0), (7, 0), (8, 0), (9, 0), (10, 0), (11, 0), (12, 0), (13, 0), (14, 0), (15, 0), (16, 0), (17, 0), (18, 0), (19, 0), (20, 0), (21, 0)] follows (by kernel_rfl) calm_body (keepS [0] rfl) <| mvp rfl <| nlc rfl <| fad rfl uy108 rfl ty3.sz <| ldp 0 1 _ rfl rfl rfl rfl ty3 <| mvp rfl <| nlc rfl <| fad rfl uy108 rfl ty9.sz <| ldp 0 0 _ rfl rfl rfl rfl ty9 <| lenT (s := s) rfl uy9 <| cmp _ rfl rfl rfl <| mvb rfl <| jsplit 18 rfl (fun h1 => ?_) (fun h1 => ?_)
 ·replace h1 := of_decide_eq_true h1
  refine g_off rfl rfl rfl rfl <| g_off rfl rfl rfl rfl <| g_off rfl rfl rfl rfl <| g_off rfl rfl rfl rfl <| g_off rfl rfl rfl rfl <| g_off rfl rfl rfl rfl <| g_off rfl rfl rfl rfl <| g_off rfl rfl rfl rfl <| g_off rfl rfl rfl rfl <| g_off rfl rfl rfl rfl <| pkt (.bool _) rfl rfl <| jt <| c_true rfl <| csr <| mvp rfl <| mvp rfl <| nlc rfl <| fad rfl uy108 rfl ty3.sz <| ldp 0 1 _ rfl rfl rfl rfl ty3 <| nlc rfl <| fad rfl uy108 rfl ty3.sz <| stp 0 2 _ (p1 (.int .i64 ((p : Nat) : Int))) rfl rfl rfl rfl rfl rfl ty3 ⟨trivial, ?_⟩
  refine jsr <| agi rfl <| jt <| c_ret ?_
  exact j_end (own0 := [[(b, .cells (cat [pt s, p1 (.int .i64 ((p : Nat) : Int)), p1 (.int .i64 (-1))]) 108)]]) (ro0 := []) (.inl rfl) rfl (hr1 Tryz.results88 (rvt (v := (.int _ _)) rfl)) [0] [] [_] [] [] _ rfl rfl (by kernel_rfl) rfl impl_nil (.inr ⟨blk_out (by omega), rfl, rfl, rfl⟩)
 ·replace h1 := of_decide_eq_false h1
  refine g_on rfl rfl rfl <| mvp rfl <| g_on rfl rfl rfl <| nlc rfl <| g_on rfl rfl rfl <| fad rfl uy108 rfl ty9.sz <| g_on rfl rfl rfl <| ldp 0 0 _ rfl rfl rfl rfl ty9 <| g_on rfl rfl rfl <| mvp rfl <| g_on rfl rfl rfl <| nlc rfl <| g_on rfl rfl rfl <| fad rfl uy108 rfl ty3.sz <| g_on rfl rfl rfl <| ldp 0 1 _ rfl rfl rfl rfl ty3 <| g_on rfl rfl rfl <| idxT (s := s) p rfl rfl uy9 rfl (by first | omega | (simp; done) | (simp; omega) | (simp at *; omega)) <| g_on rfl rfl rfl <| equ8 (a := (List.getD s p 0)) (b := (32 : UInt8)) _ rfl rfl rfl <| pkf (.bool _) rfl rfl <| jt <| c_cond rfl (fun h2 => ?_) (fun h2 => ?_)
  ·replace h2 := ndt h2
   refine csr <| mvp rfl <| mvp rfl <| nlc rfl <| fad rfl uy108 rfl ty3.sz <| ldp 0 1 _ rfl rfl rfl rfl ty3 <| nlc rfl <| fad rfl uy108 rfl ty3.sz <| stp 0 2 _ (p1 (.int .i64 ((p : Nat) : Int))) rfl rfl rfl rfl rfl rfl ty3 ⟨trivial, ?_⟩
   refine jsr <| agi rfl <| jt <| c_ret ?_
   exact j_end (own0 := [[(b, .cells (cat [pt s, p1 (.int .i64 ((p : Nat) : Int)), p1 (.int .i64 (-1))]) 108)]]) (ro0 := []) (.inl rfl) rfl (hr1 Tryz.results88 (rvt (v := (.int _ _)) rfl)) [0] [] [_] [] [] _ rfl rfl (by kernel_rfl) rfl impl_nil (.inr ⟨blk_no (by assumption), rfl, rfl, rfl⟩)
  ·replace h2 := ndf h2
   refine c_skip <| e_then <| csr <| mvp rfl <| nlc rfl <| fad rfl uy108 rfl ty3.sz <| ldp 0 1 _ rfl rfl rfl rfl ty3 <| addi rfl rfl rfl (by omega) <| agi rfl <| jt <| c_ret ?_
   exact j_end (own0 := [[(b, .cells (cat [pt s, p1 (.int .i64 ((p : Nat) : Int)), p1 (.int .i64 (-1))]) 108)]]) (ro0 := []) (.inl rfl) rfl (hr1 Tryz.results88 (rvt (v := (.int _ _)) rfl)) [0] [] [_] [] [] _ rfl rfl (by kernel_rfl) rfl impl_nil (.inl ⟨blk_yes (by omega) (by assumption), rfl, rfl, rfl⟩)
theorem rnum_ct (w : Str) (m : UInt64) (hw : w.length ≤ 140737488351232) (hm : m.toNat < 1000000000000000000) : Ct Tryz.prog 95 [strV w, .int .u64 (m.toNat : Int)] [] [tPow10 9] (fun v o r => ∃ (n : UInt64) (t : Bool), (t = true → pnum 10 w = some n.toNat ∧ n.toNat ≤ m.toNat) ∧ (t = false → ∀ k, pnum 10 w = some k → ¬ k ≤ m.toNat) ∧ v = .tuple #[.int .u64 (n.toNat : Int), .bool t] ∧ o = [] ∧ r = []) := by
 refine ct_enter Tryz.func95 rfl Tryz.ntmps95 (by kernel_rfl) rfl fun w0 => ?_
 refine csr <| agi rfl <| agb rfl <| jsr <| agi rfl <| jt <| c_seq <| csr <| agi rfl <| jt <| c_block <| c_loop (σ := Nat × UInt64) (fun (i, n) => NB w i n) (fun (i, n) => w.length - i) (fun (i, n) => [(7, .int .i64 (i : Int)), (6, .int .u64 (n.toNat : Int))]) (fun (i, n) => []) (fun (i, n) => [tPow10 9]) [4, 5, 6, 7, 8, 9, 10, 11, 12, 13, 14, 15, 16, 17, 18, 19, 20, 21, 22, 23, 24, 25, 26, 27, 28, 29, 30, 31, 32, 33, 34, 35] (0, 0) (NB.start w) ⟨rfl, rfl, trivial⟩ rfl rfl ?_
 rintro ⟨i, n⟩ g1 hI1
 try dsimp only at hI1 ⊢
 have HLE := hI1.le
 have HI18 := hI1.i18
 refine c_seq <| csr <| mvi rfl <| mvs rfl <| lenT (s := w) rfl uy9 <| cmp _ rfl rfl rfl <| jt <| c_cond rfl (fun h1 => ?_) (fun h1 => ?_)
 ·replace h1 := of_decide_eq_true h1
  refine c_skip <| e_then <| c_seq <| c_block <| c_seq <| csr <| mvs rfl <| mvi rfl <| idxT (s := w) i rfl rfl uy9 rfl (by first | omega | (simp; done) | (simp; omega) | (simp at *; omega)) <| cmp _ rfl rfl rfl <| mvb rfl <| jsplit 18 rfl (fun h2 => ?_) (fun h2 => ?_)
  ·replace h2 := of_decide_eq_true h2
   refine g_off rfl rfl rfl rfl <| g_off rfl rfl rfl rfl <| g_off rfl rfl rfl rfl <| g_off rfl rfl rfl rfl <| pkt (.bool _) rfl rfl <| mvb rfl <| g_off rfl rfl rfl rfl <| g_off rfl rfl rfl rfl <| pkt (.bool _) rfl rfl <| jt <| c_true rfl <| csr <| agi rfl <| agb rfl <| jt <| c_ret ?_
   exact j_z (own0 := []) (ro0 := [tPow10 9]) (.inl rfl) rfl (hr2 Tryz.results95 (rvt (v := (.int _ _)) rfl) (rvt (v := (.bool _)) rfl)) rfl (⟨0, false, (fun h => by cases h), (fun _ k hk => NB.no hI1 (by omega) (by omega) hm hk), rfl, rfl, rfl⟩)
  ·replace h2 := of_decide_eq_false h2
   refine g_on rfl rfl rfl <| mvs rfl <| g_on rfl rfl rfl <| mvi rfl <| g_on rfl rfl rfl <| idxT (s := w) i rfl rfl uy9 rfl (by first | omega | (simp; done) | (simp; omega) | (simp at *; omega)) <| g_on rfl rfl rfl <| cmp _ rfl rfl rfl <| pkf (.bool _) rfl rfl <| mvb rfl <| jsplit 24 rfl (fun h3 => ?_) (fun h3 => ?_)
   ·replace h3 := of_decide_eq_true h3
    refine g_off rfl rfl rfl rfl <| g_off rfl rfl rfl rfl <| pkt (.bool _) rfl rfl <| jt <| c_true rfl <| csr <| agi rfl <| agb rfl <| jt <| c_ret ?_
    exact j_z (own0 := []) (ro0 := [tPow10 9]) (.inl rfl) rfl (hr2 Tryz.results95 (rvt (v := (.int _ _)) rfl) (rvt (v := (.bool _)) rfl)) rfl (⟨0, false, (fun h => by cases h), (fun _ k hk => NB.no hI1 (by omega) (by omega) hm hk), rfl, rfl, rfl⟩)
   ·replace h3 := of_decide_eq_false h3
    refine g_on rfl rfl rfl <| mvi rfl <| g_on rfl rfl rfl <| cmp _ rfl rfl rfl <| pkf (.bool _) rfl rfl <| jt <| c_cond rfl (fun h4 => ?_) (fun h4 => ?_)
    ·replace h4 := of_decide_eq_true h4
     refine csr <| agi rfl <| agb rfl <| jt <| c_ret ?_
     exact j_z (own0 := []) (ro0 := [tPow10 9]) (.inl rfl) rfl (hr2 Tryz.results95 (rvt (v := (.int _ _)) rfl) (rvt (v := (.bool _)) rfl)) rfl (⟨0, false, (fun h => by cases h), (fun _ k hk => NB.no hI1 (by omega) (by omega) hm hk), rfl, rfl, rfl⟩)
    ·replace h4 := of_decide_eq_false h4
     refine c_skip <| e_then <| c_reg <| mvi rfl <| mulU64 (a := n) (b := (10 : UInt64)) rfl rfl <| mvs rfl <| mvi rfl <| idxT (s := w) i rfl rfl uy9 rfl (by first | omega | (simp; done) | (simp; omega) | (simp at *; omega)) <| subU8 (a := (List.getD w i 0)) (b := (48 : UInt8)) rfl rfl <| cvNU64 (n := ((List.getD w i 0) - (48 : UInt8)).toNat) rfl uy5 uy72 <| addU64 (a := (n * (10 : UInt64))) (b := (UInt64.ofNat (((List.getD w i 0) - (48 : UInt8)).toNat))) rfl rfl <| agi rfl <| jn <| e_in <| e_then <| c_reg <| mvi rfl <| addi rfl rfl rfl (by omega) <| agi rfl <| jn ?_
     exact e_loop (i + 1, ((n * (10 : UInt64)) + (UInt64.ofNat (((List.getD w i 0) - (48 : UInt8)).toNat)))) (NB.go hI1 (by omega) (by omega) (by omega) (by omega)) (by show w.length - (i + 1) < w.length - i; omega) (⟨rfl, rfl, trivial⟩) rfl rfl rfl
 ·replace h1 := of_decide_eq_false h1
  refine c_exit rfl <| e_then <| csr <| mvi rfl <| mvi rfl <| mvi rfl <| cmp _ rfl rfl rfl <| mvb rfl <| jsplit 40 rfl (fun h5 => ?_) (fun h5 => ?_)
  ·replace h5 := of_decide_eq_true h5
   refine g_on rfl rfl rfl <| mvi rfl <| g_on rfl rfl rfl <| cal (decimal_ct n) [] [] [] rfl rfl rfl (by kernel_rfl) (impl_cons (impl_at 0 rfl) impl_nil) rfl ?_; rintro _ _ _ ⟨rfl, rfl, rfl⟩; refine ⟨trivial, ?_⟩
   refine g_on rfl rfl rfl <| mvs rfl <| g_on rfl rfl rfl <| scmp (a := (fmtN 10 n.toNat)) (b := w) _ rfl rfl uy9 rfl <| pkt (.bool _) rfl rfl <| agi rfl <| agb rfl <| jt <| c_ret ?_
   exact j_z (own0 := []) (ro0 := [tPow10 9]) (.inl rfl) rfl (hr2 Tryz.results95 (rvt (v := (.int _ _)) rfl) (rvt (v := (.bool _)) rfl)) rfl (⟨n, _, (fun h => ⟨NB.yes hI1 (by omega) (of_decide_eq_true h), by omega⟩), (fun h k hk => NB.bad hI1 (by omega) (fun hh => of_decide_eq_false h hh.2) hk), rfl, rfl, rfl⟩)
  ·replace h5 := of_decide_eq_false h5
   refine g_off rfl rfl rfl rfl <| g_off rfl rfl rfl rfl <| g_off rfl rfl rfl rfl <| g_off rfl rfl rfl rfl <| pkf (.bool _) rfl rfl <| agi rfl <| agb rfl <| jt <| c_ret ?_
   exact j_z (own0 := []) (ro0 := [tPow10 9]) (.inl rfl) rfl (hr2 Tryz.results95 (rvt (v := (.int _ _)) rfl) (rvt (v := (.bool _)) rfl)) rfl (⟨n, false, (fun h => by cases h), (fun _ k hk => NB.bad hI1 (by omega) (fun hh => by omega) hk), rfl, rfl, rfl⟩)
theorem bits_ct (w : Str) (hw : w.length ≤ 140737488351232) : Ct Tryz.prog 92 [strV w] [] [] (fun v o r => ∃ (n : UInt64) (t : Bool), (t = true → w.length = 2 * 8 ∧ hexok w = true ∧ (⟨n⟩ : F64) = degB w) ∧ (t = false → ¬(w.length = 2 * 8 ∧ hexok w = true)) ∧ v = .tuple #[.int .u64 (n.toNat : Int), .bool t] ∧ o = [] ∧ r = []) := by
 refine ct_enter Tryz.func92 rfl Tryz.ntmps92 (by kernel_rfl) rfl fun w0 => ?_
 refine csr <| agi rfl <| agb rfl <| jsr <| agi rfl <| jt <| c_seq <| csr <| agi rfl <| jt <| c_block <| c_loop (σ := Nat × UInt64) (fun (i, n) => XB w i n) (fun (i, n) => w.length - i) (fun (i, n) => [(5, .int .i64 (i : Int)), (4, .int .u64 (n.toNat : Int))]) (fun (i, n) => []) (fun (i, n) => []) [2, 3, 4, 5, 6, 7, 8, 9, 10, 11, 12, 13, 14, 15, 16, 17, 18, 19, 20, 21, 22, 23, 24, 25, 26] (0, 0) (XB.start w) ⟨rfl, rfl, trivial⟩ rfl rfl ?_
 rintro ⟨i, n⟩ g1 hI1
 try dsimp only at hI1 ⊢
 have HLE := hI1.le
 have HI16 := hI1.i16
 refine c_seq <| csr <| mvi rfl <| mvs rfl <| lenT (s := w) rfl uy9 <| cmp _ rfl rfl rfl <| jt <| c_cond rfl (fun h1 => ?_) (fun h1 => ?_)
 ·replace h1 := of_decide_eq_true h1
  refine c_skip <| e_then <| c_seq <| c_block <| csr <| mvs rfl <| mvi rfl <| idxT (s := w) i rfl rfl uy9 rfl (by first | omega | (simp; done) | (simp; omega) | (simp at *; omega)) <| cal (digit_ct (List.getD w i 0)) [] [] [] rfl rfl rfl (by kernel_rfl) impl_nil rfl ?_; rintro _ _ _ ⟨rfl, rfl, rfl⟩; refine ⟨trivial, ?_⟩
  refine agi rfl <| jt <| c_seq <| csr <| mvi rfl <| cmp _ rfl rfl rfl <| mvb rfl <| jsplit 19 rfl (fun h2 => ?_) (fun h2 => ?_)
  ·replace h2 := of_decide_eq_true h2
   refine g_off rfl rfl rfl rfl <| g_off rfl rfl rfl rfl <| pkt (.bool _) rfl rfl <| jt <| c_true rfl <| csr <| agi rfl <| agb rfl <| jt <| c_ret ?_
   exact j_z (own0 := []) (ro0 := []) (.inl rfl) rfl (hr2 Tryz.results92 (rvt (v := (.int _ _)) rfl) (rvt (v := (.bool _)) rfl)) rfl (⟨0, false, (fun h => by cases h), (fun _ => XB.no hI1 (by omega) (by omega)), rfl, rfl, rfl⟩)
  ·replace h2 := of_decide_eq_false h2
   refine g_on rfl rfl rfl <| mvi rfl <| g_on rfl rfl rfl <| cmp _ rfl rfl rfl <| pkf (.bool _) rfl rfl <| jt <| c_cond rfl (fun h3 => ?_) (fun h3 => ?_)
   ·replace h3 := of_decide_eq_true h3
    refine csr <| agi rfl <| agb rfl <| jt <| c_ret ?_
    exact j_z (own0 := []) (ro0 := []) (.inl rfl) rfl (hr2 Tryz.results92 (rvt (v := (.int _ _)) rfl) (rvt (v := (.bool _)) rfl)) rfl (⟨0, false, (fun h => by cases h), (fun _ => XB.no hI1 (by omega) (by omega)), rfl, rfl, rfl⟩)
   ·replace h3 := of_decide_eq_false h3
    refine c_skip <| e_then <| c_reg <| mvi rfl <| mulU64 (a := n) (b := (16 : UInt64)) rfl rfl <| mvi rfl <| addU64 (a := (n * (16 : UInt64))) (b := (hexu (List.getD w i 0))) rfl rfl <| agi rfl <| jn <| e_in <| e_then <| c_reg <| mvi rfl <| addi rfl rfl rfl (by omega) <| agi rfl <| jn ?_
    exact e_loop (i + 1, ((n * (16 : UInt64)) + (hexu (List.getD w i 0)))) (XB.go hI1 (by omega) (by omega) (by omega)) (by show w.length - (i + 1) < w.length - i; omega) (⟨rfl, rfl, trivial⟩) rfl rfl rfl
 ·replace h1 := of_decide_eq_false h1
  refine c_exit rfl <| e_then <| csr <| mvi rfl <| mvs rfl <| lenT (s := w) rfl uy9 <| cmp _ rfl rfl rfl <| agi rfl <| agb rfl <| jt <| c_ret ?_
  exact j_z (own0 := []) (ro0 := []) (.inl rfl) rfl (hr2 Tryz.results92 (rvt (v := (.int _ _)) rfl) (rvt (v := (.bool _)) rfl)) rfl (⟨n, _, (fun h => XB.fin hI1 (by omega) (by have := of_decide_eq_true h; omega)), (fun h hh => by have := of_decide_eq_false h; have := hh.1; omega), rfl, rfl, rfl⟩)
theorem qend_ct (s : Str) (a : Nat) (hs : s.length ≤ 140737488351232) (ha : a ≤ s.length) : Ct Tryz.prog 89 [strV s, .int .i64 (a : Int)] [] [] (fun v o r => v = .int .i64 ((qend s a : Nat) : Int) ∧ o = [] ∧ r = []) := by
 refine ct_enter Tryz.func89 rfl Tryz.ntmps89 (by kernel_rfl) rfl fun w0 => ?_
 refine csr <| agi rfl <| jt <| c_seq <| csr <| mvi rfl <| mvs rfl <| lenT (s := s) rfl uy9 <| cmp _ rfl rfl rfl <| mvb rfl <| jsplit 10 rfl (fun h1 => ?_) (fun h1 => ?_)
 ·replace h1 := of_decide_eq_true h1
  refine g_off rfl rfl rfl rfl <| g_off rfl rfl rfl rfl <| g_off rfl rfl rfl rfl <| g_off rfl rfl rfl rfl <| pkt (.bool _) rfl rfl <| jt <| c_true rfl <| csr <| mvi rfl <| agi rfl <| jt <| c_ret ?_
  exact j_z (own0 := []) (ro0 := []) (.inl rfl) rfl (hr1 Tryz.results89 (rvt (v := (.int _ _)) rfl)) rfl (⟨congrArg (fun x : Nat => Value.int .i64 (x : Int)) ((qend_no (fun hh => by first | omega | exact absurd hh.2 (by assumption))).symm), rfl, rfl⟩)
 ·replace h1 := of_decide_eq_false h1
  refine g_on rfl rfl rfl <| mvs rfl <| g_on rfl rfl rfl <| mvi rfl <| g_on rfl rfl rfl <| idxT (s := s) a rfl rfl uy9 rfl (by first | omega | (simp; done) | (simp; omega) | (simp at *; omega)) <| g_on rfl rfl rfl <| equ8 (a := (List.getD s a 0)) (b := (34 : UInt8)) _ rfl rfl rfl <| pkf (.bool _) rfl rfl <| jt <| c_cond rfl (fun h2 => ?_) (fun h2 => ?_)
  ·replace h2 := ndt h2
   refine csr <| mvi rfl <| agi rfl <| jt <| c_ret ?_
   exact j_z (own0 := []) (ro0 := []) (.inl rfl) rfl (hr1 Tryz.results89 (rvt (v := (.int _ _)) rfl)) rfl (⟨congrArg (fun x : Nat => Value.int .i64 (x : Int)) ((qend_no (fun hh => by first | omega | exact absurd hh.2 (by assumption))).symm), rfl, rfl⟩)
  ·replace h2 := ndf h2
   refine c_skip <| e_then <| c_seq <| csr <| mvi rfl <| addi rfl rfl rfl (by omega) <| agi rfl <| jt <| c_block <| c_loop (σ := Nat) (fun i => i ≤ s.length + 1 ∧ qstop s i = qstop s (a + 1)) (fun i => s.length + 1 - i) (fun i => [(5, .int .i64 (i : Int))]) (fun i => []) (fun i => []) [4, 5, 19, 20, 21, 22, 23, 24, 25, 26, 27, 28, 29, 30, 31, 32, 33, 34, 35, 36] (a + 1) (⟨by omega, rfl⟩) ⟨rfl, trivial⟩ rfl rfl ?_
   rintro i g1 hI1
   try dsimp only at hI1 ⊢
   refine c_seq <| csr <| mvi rfl <| mvs rfl <| lenT (s := s) rfl uy9 <| cmp _ rfl rfl rfl <| jt <| c_cond rfl (fun h3 => ?_) (fun h3 => ?_)
   ·replace h3 := of_decide_eq_true h3
    refine c_skip <| e_then <| c_seq <| c_block <| c_seq <| csr <| mvs rfl <| mvi rfl <| idxT (s := s) i rfl rfl uy9 rfl (by first | omega | (simp; done) | (simp; omega) | (simp at *; omega)) <| equ8 (a := (List.getD s i 0)) (b := (34 : UInt8)) _ rfl rfl rfl <| jt <| c_cond rfl (fun h4 => ?_) (fun h4 => ?_)
    ·replace h4 := of_decide_eq_true h4
     refine csr <| mvi rfl <| addi rfl rfl rfl (by omega) <| agi rfl <| jt <| c_ret ?_
     exact j_z (own0 := []) (ro0 := []) (.inl rfl) rfl (hr1 Tryz.results89 (rvt (v := (.int _ _)) rfl)) rfl (⟨congrArg (fun x : Nat => Value.int .i64 (x : Int)) (qend_at (by omega) (by assumption) hI1.2 (by omega) (by assumption)), rfl, rfl⟩)
    ·replace h4 := of_decide_eq_false h4
     refine c_skip <| e_then <| csr <| mvs rfl <| mvi rfl <| idxT (s := s) i rfl rfl uy9 rfl (by first | omega | (simp; done) | (simp; omega) | (simp at *; omega)) <| equ8 (a := (List.getD s i 0)) (b := (92 : UInt8)) _ rfl rfl rfl <| jt <| c_cond rfl (fun h5 => ?_) (fun h5 => ?_)
     ·replace h5 := of_decide_eq_true h5
      refine c_reg <| mvi rfl <| addi rfl rfl rfl (by omega) <| agi rfl <| jn <| e_in <| e_then <| c_reg <| mvi rfl <| addi rfl rfl rfl (by omega) <| agi rfl <| jn ?_
      exact e_loop ((i + 1) + 1) (⟨by omega, by rw [show i + 1 + 1 = i + 2 by omega, ← qstop_two (by omega) (by assumption)]; exact hI1.2⟩) (by show s.length + 1 - _ < s.length + 1 - i; omega) (⟨rfl, trivial⟩) rfl rfl rfl
     ·replace h5 := of_decide_eq_false h5
      refine c_skip <| e_in <| e_then <| c_reg <| mvi rfl <| addi rfl rfl rfl (by omega) <| agi rfl <| jn ?_
      exact e_loop (i + 1) (⟨by omega, by rw [← qstop_one (by omega) (by assumption) (by assumption)]; exact hI1.2⟩) (by show s.length + 1 - _ < s.length + 1 - i; omega) (⟨rfl, trivial⟩) rfl rfl rfl
   ·replace h3 := of_decide_eq_false h3
    refine c_exit rfl <| e_then <| csr <| mvi rfl <| agi rfl <| jt <| c_ret ?_
    exact j_z (own0 := []) (ro0 := []) (.inl rfl) rfl (hr1 Tryz.results89 (rvt (v := (.int _ _)) rfl)) rfl (⟨congrArg (fun x : Nat => Value.int .i64 (x : Int)) ((qend_out hI1.2 (by omega)).symm), rfl, rfl⟩)
theorem utf8_ct (n : UInt64) : Ct Tryz.prog 115 [.int .u64 (n.toNat : Int)] [] [] (fun v o r => v = strV (encv n.toNat) ∧ o = [] ∧ r = []) := by
 refine ct_enter Tryz.func115 rfl Tryz.ntmps115 (by kernel_rfl) rfl fun w0 => ?_
 refine csr <| ags rfl <| jt <| c_seq <| csr <| mvi rfl <| cmp _ rfl rfl rfl <| jt <| c_cond rfl (fun h1 => ?_) (fun h1 => ?_)
 ·replace h1 := of_decide_eq_true h1
  refine csr <| mvi rfl <| cvNU8 (n := n.toNat) rfl uy72 uy5 <| bsl (α := UInt8) ([(UInt8.ofNat n.toNat)]) uy93 ty5.sz rfl (by decide) z5 rfl fun b7 => ⟨trivial, ?_⟩
  refine cvBO (o := ⟨false, b7, 1, []⟩) (ys := ([(UInt8.ofNat n.toNat)] : List UInt8)) 0 ⟨by simp, fun _ => rfl, Nat.le_refl _⟩ rfl rfl rfl uy93 uy9 uy5 <| ags rfl <| jt <| c_ret ?_
  exact j_d (own0 := []) (ro0 := []) (.inl rfl) rfl (hr1 Tryz.results115 (rvt (v := (.string _)) rfl)) [0] [_] rfl (by kernel_rfl) rfl (⟨congrArg strV (encv_1 (by omega)), rfl, rfl⟩)
 ·replace h1 := of_decide_eq_false h1
  refine c_skip <| e_then <| c_seq <| csr <| mvi rfl <| cmp _ rfl rfl rfl <| jt <| c_cond rfl (fun h2 => ?_) (fun h2 => ?_)
  ·replace h2 := of_decide_eq_true h2
   refine csr <| mvi rfl <| quoU64 (a := n) (b := (64 : UInt64)) rfl rfl (by decide) <| addU64 (a := (192 : UInt64)) (b := (n / (64 : UInt64))) rfl rfl <| cvNU8 (n := ((192 : UInt64) + (n / (64 : UInt64))).toNat) rfl uy72 uy5 <| mvi rfl <| remU64 (a := n) (b := (64 : UInt64)) rfl rfl (by decide) <| addU64 (a := (128 : UInt64)) (b := (n % (64 : UInt64))) rfl rfl <| cvNU8 (n := ((128 : UInt64) + (n % (64 : UInt64))).toNat) rfl uy72 uy5 <| bsl (α := UInt8) ([(UInt8.ofNat (((192 : UInt64) + (n / (64 : UInt64))).toNat)), (UInt8.ofNat (((128 : UInt64) + (n % (64 : UInt64))).toNat))]) uy93 ty5.sz rfl (by decide) z5 rfl fun b19 => ⟨trivial, ?_⟩
   refine cvBO (o := ⟨false, b19, 2, []⟩) (ys := ([(UInt8.ofNat (((192 : UInt64) + (n / (64 : UInt64))).toNat)), (UInt8.ofNat (((128 : UInt64) + (n % (64 : UInt64))).toNat))] : List UInt8)) 0 ⟨by simp, fun _ => rfl, Nat.le_refl _⟩ rfl rfl rfl uy93 uy9 uy5 <| ags rfl <| jt <| c_ret ?_
   exact j_d (own0 := []) (ro0 := []) (.inl rfl) rfl (hr1 Tryz.results115 (rvt (v := (.string _)) rfl)) [0] [_] rfl (by kernel_rfl) rfl (⟨congrArg strV (encv_2 (by omega) (by omega)), rfl, rfl⟩)
  ·replace h2 := of_decide_eq_false h2
   refine c_skip <| e_then <| c_seq <| csr <| mvi rfl <| cmp _ rfl rfl rfl <| mvb rfl <| jsplit 23 rfl (fun h3 => ?_) (fun h3 => ?_)
   ·replace h3 := of_decide_eq_true h3
    refine g_on rfl rfl rfl <| mvi rfl <| g_on rfl rfl rfl <| cmp _ rfl rfl rfl <| pkt (.bool _) rfl rfl <| mvb rfl <| jsplit 27 rfl (fun h4 => ?_) (fun h4 => ?_)
    ·replace h4 := of_decide_eq_true h4
     refine g_off rfl rfl rfl rfl <| g_off rfl rfl rfl rfl <| pkt (.bool _) rfl rfl <| jt <| c_true rfl <| csr <| ags rfl <| jt <| c_ret ?_
     exact j_z (own0 := []) (ro0 := []) (.inl rfl) rfl (hr1 Tryz.results115 (rvt (v := (.string _)) rfl)) rfl (⟨congrArg strV (encv_0 (by omega) (by omega)), rfl, rfl⟩)
    ·replace h4 := of_decide_eq_false h4
     refine g_on rfl rfl rfl <| mvi rfl <| g_on rfl rfl rfl <| cmp _ rfl rfl rfl <| pkf (.bool _) rfl rfl <| jt <| c_cond rfl (fun h5 => ?_) (fun h5 => ?_)
     ·replace h5 := of_decide_eq_true h5
      refine csr <| ags rfl <| jt <| c_ret ?_
      exact j_z (own0 := []) (ro0 := []) (.inl rfl) rfl (hr1 Tryz.results115 (rvt (v := (.string _)) rfl)) rfl (⟨congrArg strV (encv_0 (by omega) (by omega)), rfl, rfl⟩)
     ·replace h5 := of_decide_eq_false h5
      refine c_skip <| e_then <| c_seq <| csr <| mvi rfl <| cmp _ rfl rfl rfl <| jt <| c_cond rfl (fun h6 => ?_) (fun h6 => ?_)
      ·replace h6 := of_decide_eq_true h6
       refine csr <| mvi rfl <| quoU64 (a := n) (b := (4096 : UInt64)) rfl rfl (by decide) <| addU64 (a := (224 : UInt64)) (b := (n / (4096 : UInt64))) rfl rfl <| cvNU8 (n := ((224 : UInt64) + (n / (4096 : UInt64))).toNat) rfl uy72 uy5 <| mvi rfl <| quoU64 (a := n) (b := (64 : UInt64)) rfl rfl (by decide) <| remU64 (a := (n / (64 : UInt64))) (b := (64 : UInt64)) rfl rfl (by decide) <| addU64 (a := (128 : UInt64)) (b := ((n / (64 : UInt64)) % (64 : UInt64))) rfl rfl <| cvNU8 (n := ((128 : UInt64) + ((n / (64 : UInt64)) % (64 : UInt64))).toNat) rfl uy72 uy5 <| mvi rfl <| remU64 (a := n) (b := (64 : UInt64)) rfl rfl (by decide) <| addU64 (a := (128 : UInt64)) (b := (n % (64 : UInt64))) rfl rfl <| cvNU8 (n := ((128 : UInt64) + (n % (64 : UInt64))).toNat) rfl uy72 uy5 <| bsl (α := UInt8) ([(UInt8.ofNat (((224 : UInt64) + (n / (4096 : UInt64))).toNat)), (UInt8.ofNat (((128 : UInt64) + ((n / (64 : UInt64)) % (64 : UInt64))).toNat)), (UInt8.ofNat (((128 : UInt64) + (n % (64 : UInt64))).toNat))]) uy93 ty5.sz rfl (by decide) z5 rfl fun b46 => ⟨trivial, ?_⟩
       refine cvBO (o := ⟨false, b46, 3, []⟩) (ys := ([(UInt8.ofNat (((224 : UInt64) + (n / (4096 : UInt64))).toNat)), (UInt8.ofNat (((128 : UInt64) + ((n / (64 : UInt64)) % (64 : UInt64))).toNat)), (UInt8.ofNat (((128 : UInt64) + (n % (64 : UInt64))).toNat))] : List UInt8)) 0 ⟨by simp, fun _ => rfl, Nat.le_refl _⟩ rfl rfl rfl uy93 uy9 uy5 <| ags rfl <| jt <| c_ret ?_
       exact j_d (own0 := []) (ro0 := []) (.inl rfl) rfl (hr1 Tryz.results115 (rvt (v := (.string _)) rfl)) [0] [_] rfl (by kernel_rfl) rfl (⟨congrArg strV (encv_3 (by omega) (by omega) (by omega)), rfl, rfl⟩)
      ·replace h6 := of_decide_eq_false h6
       refine c_skip <| e_then <| csr <| mvi rfl <| quoU64 (a := n) (b := (262144 : UInt64)) rfl rfl (by decide) <| addU64 (a := (240 : UInt64)) (b := (n / (262144 : UInt64))) rfl rfl <| cvNU8 (n := ((240 : UInt64) + (n / (262144 : UInt64))).toNat) rfl uy72 uy5 <| mvi rfl <| quoU64 (a := n) (b := (4096 : UInt64)) rfl rfl (by decide) <| remU64 (a := (n / (4096 : UInt64))) (b := (64 : UInt64)) rfl rfl (by decide) <| addU64 (a := (128 : UInt64)) (b := ((n / (4096 : UInt64)) % (64 : UInt64))) rfl rfl <| cvNU8 (n := ((128 : UInt64) + ((n / (4096 : UInt64)) % (64 : UInt64))).toNat) rfl uy72 uy5 <| mvi rfl <| quoU64 (a := n) (b := (64 : UInt64)) rfl rfl (by decide) <| remU64 (a := (n / (64 : UInt64))) (b := (64 : UInt64)) rfl rfl (by decide) <| addU64 (a := (128 : UInt64)) (b := ((n / (64 : UInt64)) % (64 : UInt64))) rfl rfl <| cvNU8 (n := ((128 : UInt64) + ((n / (64 : UInt64)) % (64 : UInt64))).toNat) rfl uy72 uy5 <| mvi rfl <| remU64 (a := n) (b := (64 : UInt64)) rfl rfl (by decide) <| addU64 (a := (128 : UInt64)) (b := (n % (64 : UInt64))) rfl rfl <| cvNU8 (n := ((128 : UInt64) + (n % (64 : UInt64))).toNat) rfl uy72 uy5 <| bsl (α := UInt8) ([(UInt8.ofNat (((240 : UInt64) + (n / (262144 : UInt64))).toNat)), (UInt8.ofNat (((128 : UInt64) + ((n / (4096 : UInt64)) % (64 : UInt64))).toNat)), (UInt8.ofNat (((128 : UInt64) + ((n / (64 : UInt64)) % (64 : UInt64))).toNat)), (UInt8.ofNat (((128 : UInt64) + (n % (64 : UInt64))).toNat))]) uy93 ty5.sz rfl (by decide) z5 rfl fun b66 => ⟨trivial, ?_⟩
       refine cvBO (o := ⟨false, b66, 4, []⟩) (ys := ([(UInt8.ofNat (((240 : UInt64) + (n / (262144 : UInt64))).toNat)), (UInt8.ofNat (((128 : UInt64) + ((n / (4096 : UInt64)) % (64 : UInt64))).toNat)), (UInt8.ofNat (((128 : UInt64) + ((n / (64 : UInt64)) % (64 : UInt64))).toNat)), (UInt8.ofNat (((128 : UInt64) + (n % (64 : UInt64))).toNat))] : List UInt8)) 0 ⟨by simp, fun _ => rfl, Nat.le_refl _⟩ rfl rfl rfl uy93 uy9 uy5 <| ags rfl <| jt <| c_ret ?_
       exact j_d (own0 := []) (ro0 := []) (.inl rfl) rfl (hr1 Tryz.results115 (rvt (v := (.string _)) rfl)) [0] [_] rfl (by kernel_rfl) rfl (⟨congrArg strV (encv_4 (by omega) (by omega)), rfl, rfl⟩)
   ·replace h3 := of_decide_eq_false h3
    refine g_off rfl rfl rfl rfl <| g_off rfl rfl rfl rfl <| pkf (.bool _) rfl rfl <| mvb rfl <| g_on rfl rfl rfl <| mvi rfl <| g_on rfl rfl rfl <| cmp _ rfl rfl rfl <| pkf (.bool _) rfl rfl <| jt <| c_cond rfl (fun h7 => ?_) (fun h7 => ?_)
    ·replace h7 := of_decide_eq_true h7
     refine csr <| ags rfl <| jt <| c_ret ?_
     exact j_z (own0 := []) (ro0 := []) (.inl rfl) rfl (hr1 Tryz.results115 (rvt (v := (.string _)) rfl)) rfl (⟨congrArg strV (encv_0 (by omega) (by omega)), rfl, rfl⟩)
    ·replace h7 := of_decide_eq_false h7
     refine c_skip <| e_then <| c_seq <| csr <| mvi rfl <| cmp _ rfl rfl rfl <| jt <| c_cond rfl (fun h8 => ?_) (fun h8 => ?_)
     ·replace h8 := of_decide_eq_true h8
      refine csr <| mvi rfl <| quoU64 (a := n) (b := (4096 : UInt64)) rfl rfl (by decide) <| addU64 (a := (224 : UInt64)) (b := (n / (4096 : UInt64))) rfl rfl <| cvNU8 (n := ((224 : UInt64) + (n / (4096 : UInt64))).toNat) rfl uy72 uy5 <| mvi rfl <| quoU64 (a := n) (b := (64 : UInt64)) rfl rfl (by decide) <| remU64 (a := (n / (64 : UInt64))) (b := (64 : UInt64)) rfl rfl (by decide) <| addU64 (a := (128 : UInt64)) (b := ((n / (64 : UInt64)) % (64 : UInt64))) rfl rfl <| cvNU8 (n := ((128 : UInt64) + ((n / (64 : UInt64)) % (64 : UInt64))).toNat) rfl uy72 uy5 <| mvi rfl <| remU64 (a := n) (b := (64 : UInt64)) rfl rfl (by decide) <| addU64 (a := (128 : UInt64)) (b := (n % (64 : UInt64))) rfl rfl <| cvNU8 (n := ((128 : UInt64) + (n % (64 : UInt64))).toNat) rfl uy72 uy5 <| bsl (α := UInt8) ([(UInt8.ofNat (((224 : UInt64) + (n / (4096 : UInt64))).toNat)), (UInt8.ofNat (((128 : UInt64) + ((n / (64 : UInt64)) % (64 : UInt64))).toNat)), (UInt8.ofNat (((128 : UInt64) + (n % (64 : UInt64))).toNat))]) uy93 ty5.sz rfl (by decide) z5 rfl fun b46 => ⟨trivial, ?_⟩
      refine cvBO (o := ⟨false, b46, 3, []⟩) (ys := ([(UInt8.ofNat (((224 : UInt64) + (n / (4096 : UInt64))).toNat)), (UInt8.ofNat (((128 : UInt64) + ((n / (64 : UInt64)) % (64 : UInt64))).toNat)), (UInt8.ofNat (((128 : UInt64) + (n % (64 : UInt64))).toNat))] : List UInt8)) 0 ⟨by simp, fun _ => rfl, Nat.le_refl _⟩ rfl rfl rfl uy93 uy9 uy5 <| ags rfl <| jt <| c_ret ?_
      exact j_d (own0 := []) (ro0 := []) (.inl rfl) rfl (hr1 Tryz.results115 (rvt (v := (.string _)) rfl)) [0] [_] rfl (by kernel_rfl) rfl (⟨congrArg strV (encv_3 (by omega) (by omega) (by omega)), rfl, rfl⟩)
     ·replace h8 := of_decide_eq_false h8
      refine c_skip <| e_then <| csr <| mvi rfl <| quoU64 (a := n) (b := (262144 : UInt64)) rfl rfl (by decide) <| addU64 (a := (240 : UInt64)) (b := (n / (262144 : UInt64))) rfl rfl <| cvNU8 (n := ((240 : UInt64) + (n / (262144 : UInt64))).toNat) rfl uy72 uy5 <| mvi rfl <| quoU64 (a := n) (b := (4096 : UInt64)) rfl rfl (by decide) <| remU64 (a := (n / (4096 : UInt64))) (b := (64 : UInt64)) rfl rfl (by decide) <| addU64 (a := (128 : UInt64)) (b := ((n / (4096 : UInt64)) % (64 : UInt64))) rfl rfl <| cvNU8 (n := ((128 : UInt64) + ((n / (4096 : UInt64)) % (64 : UInt64))).toNat) rfl uy72 uy5 <| mvi rfl <| quoU64 (a := n) (b := (64 : UInt64)) rfl rfl (by decide) <| remU64 (a := (n / (64 : UInt64))) (b := (64 : UInt64)) rfl rfl (by decide) <| addU64 (a := (128 : UInt64)) (b := ((n / (64 : UInt64)) % (64 : UInt64))) rfl rfl <| cvNU8 (n := ((128 : UInt64) + ((n / (64 : UInt64)) % (64 : UInt64))).toNat) rfl uy72 uy5 <| mvi rfl <| remU64 (a := n) (b := (64 : UInt64)) rfl rfl (by decide) <| addU64 (a := (128 : UInt64)) (b := (n % (64 : UInt64))) rfl rfl <| cvNU8 (n := ((128 : UInt64) + (n % (64 : UInt64))).toNat) rfl uy72 uy5 <| bsl (α := UInt8) ([(UInt8.ofNat (((240 : UInt64) + (n / (262144 : UInt64))).toNat)), (UInt8.ofNat (((128 : UInt64) + ((n / (4096 : UInt64)) % (64 : UInt64))).toNat)), (UInt8.ofNat (((128 : UInt64) + ((n / (64 : UInt64)) % (64 : UInt64))).toNat)), (UInt8.ofNat (((128 : UInt64) + (n % (64 : UInt64))).toNat))]) uy93 ty5.sz rfl (by decide) z5 rfl fun b66 => ⟨trivial, ?_⟩
      refine cvBO (o := ⟨false, b66, 4, []⟩) (ys := ([(UInt8.ofNat (((240 : UInt64) + (n / (262144 : UInt64))).toNat)), (UInt8.ofNat (((128 : UInt64) + ((n / (4096 : UInt64)) % (64 : UInt64))).toNat)), (UInt8.ofNat (((128 : UInt64) + ((n / (64 : UInt64)) % (64 : UInt64))).toNat)), (UInt8.ofNat (((128 : UInt64) + (n % (64 : UInt64))).toNat))] : List UInt8)) 0 ⟨by simp, fun _ => rfl, Nat.le_refl _⟩ rfl rfl rfl uy93 uy9 uy5 <| ags rfl <| jt <| c_ret ?_
      exact j_d (own0 := []) (ro0 := []) (.inl rfl) rfl (hr1 Tryz.results115 (rvt (v := (.string _)) rfl)) [0] [_] rfl (by kernel_rfl) rfl (⟨congrArg strV (encv_4 (by omega) (by omega)), rfl, rfl⟩)
end Go.Proofs.YtakbbpahfclgnaaGreatDoor
namespace Go.Proofs.YtakbbpahfclgnaaGreatDoor
open Go Go.Proofs Go.PW
open Go.PW.Enc (enc val)
theorem z74 : Zt Tryz.prog 74 (.agg ⟨cat [pt (zarr : (Arr UInt8 32))]⟩) := by unfold Zt; kernel_rfl
theorem take_word (s : Str) (a : Nat) : List.take (a + wlen s a - a) (List.drop a s) = word s a := by unfold word; rw [show a + wlen s a - a = wlen s a by omega]
theorem take_word0 (s : Str) : List.take (word s 0).length s = word s 0 := by rw [word_length]; unfold word; rw [List.drop_zero]
theorem earth_90 (f : F64) : decide (floatV f.b 90 = 0) = !oddB f ⟨4636033603912859648⟩ := by have h := onEarth_eq f 90 (by rw [whole_90]; decide); rw [whole_90] at h; exact h
theorem earth_180 (f : F64) : decide (floatV f.b 180 = 0) = !oddB f ⟨4640537203540230144⟩ := by have h := onEarth_eq f 180 (by rw [whole_180]; decide); rw [whole_180] at h; exact h
theorem earth_ok {m : UInt64} {M f : F64} (hM : ∀ f : F64, decide (floatV f.b m = 0) = !oddB f M) (h : floatV f.b m = 0) : oddB f M = false := by have := hM f; rw [decide_eq_true h] at this; exact notT this.symm
theorem earth_odd {m : UInt64} {M f : F64} (hM : ∀ f : F64, decide (floatV f.b m = 0) = !oddB f M) (h : ¬ floatV f.b m = 0) : oddB f M = true := by have := hM f; rw [decide_eq_false h] at this; exact notF this.symm
theorem said_u8 {s : Str} {lo hi : Int} (h : saidB s lo hi = true) : u8ok s = true := by unfold saidB at h; rw [Bool.and_eq_true] at h; exact h.2
theorem said_b {s : Str} {lo hi : Int} (h : saidB s lo hi = true) : lo ≤ (s.length : Int) ∧ (s.length : Int) ≤ hi := by simp only [saidB, Bool.and_eq_true, decide_eq_true_eq] at h; exact h.1
theorem said_no {s : Str} {lo hi : Int} (h : saidB s lo hi = false) (hu : u8ok s = true) : ¬(lo ≤ (s.length : Int) ∧ (s.length : Int) ≤ hi) := fun hb => by unfold saidB at h; rw [hu, decide_eq_true hb.1, decide_eq_true hb.2] at h; cases h
theorem rdnum_bad (b : Nat) (s : Str) (p k : Nat) (m : UInt64) : Ct Tryz.prog 55 [.pointer (some ⟨b, 0, none⟩), .int .u64 (m.toNat : Int)] [[(b, .cells (cat [pt s, p1 (.int .i64 ((p : Nat) : Int)), p1 (.int .i64 ((k : Nat) : Int))]) 108)]] [] (fun v o r => v = .int .u64 0 ∧ o = [[(b, .cells (cat [pt s, p1 (.int .i64 ((p : Nat) : Int)), p1 (.int .i64 ((k : Nat) : Int))]) 108)]] ∧ r = []) := by
 refine ct_enter Tryz.func55 rfl Tryz.ntmps55 (by kernel_rfl) rfl fun w0 => ?_
 refine csr <| agi rfl <| jsr <| mvp rfl <| cal (rbegin_bad b s p k) [0] [] [] rfl rfl rfl (by kernel_rfl) impl_nil rfl ?_; rintro _ _ _ ⟨rfl, rfl, rfl⟩; refine ⟨trivial, ?_⟩
 refine agi rfl <| jt <| c_seq <| csr <| mvi rfl <| cmp true rfl rfl rfl <| jt <| c_true rfl <| csr <| agi rfl <| jt <| c_ret ?_
 exact j_end (own0 := [[(b, .cells (cat [pt s, p1 (.int .i64 ((p : Nat) : Int)), p1 (.int .i64 ((k : Nat) : Int))]) 108)]]) (ro0 := []) (.inl rfl) rfl (hr1 Tryz.results55 (rvt (v := (.int _ _)) rfl)) [0] [] [_] [] [] _ rfl rfl (by kernel_rfl) rfl impl_nil (⟨rfl, rfl, rfl⟩)
theorem rdnum_ct (b : Nat) (s : Str) (p : Nat) (hs : s.length ≤ 140737488351232) (hp : p ≤ s.length) (m : UInt64) (hm : m.toNat < 1000000000000000000) : Ct Tryz.prog 55 [.pointer (some ⟨b, 0, none⟩), .int .u64 (m.toNat : Int)] [[(b, .cells (cat [pt s, p1 (.int .i64 ((p : Nat) : Int)), p1 (.int .i64 (-1))]) 108)]] [tPow10 9] (fun v o r => (∃ (n : UInt64) (q : Nat), numR s 0 m.toNat p = .inr (n.toNat, q) ∧ v = .int .u64 (n.toNat : Int) ∧ o = [[(b, .cells (cat [pt s, p1 (.int .i64 ((q : Nat) : Int)), p1 (.int .i64 (-1))]) 108)]] ∧ r = []) ∨ (∃ (n : UInt64) (q a : Nat), numR s 0 m.toNat p = .inl q ∧ v = .int .u64 (n.toNat : Int) ∧ o = [[(b, .cells (cat [pt s, p1 (.int .i64 ((a : Nat) : Int)), p1 (.int .i64 ((q : Nat) : Int))]) 108)]] ∧ r = [])) := by
 have HWL := wlen_le s (p + 1)
 have HWW := word_length s (p + 1)
 refine ct_enter Tryz.func55 rfl Tryz.ntmps55 (by kernel_rfl) rfl fun w0 => ?_
 refine csr <| agi rfl <| jsr <| mvp rfl <| cal (rbegin_ct b s p (by omega) (by omega)) [0] [] [] rfl rfl rfl (by kernel_rfl) impl_nil rfl ?_; rintro _ _ _ (⟨hbl1, rfl, rfl, rfl⟩ | ⟨hbl1, rfl, rfl, rfl⟩)
 ·have hpl1 := blk_lt hbl1; refine ⟨trivial, ?_⟩
  refine agi rfl <| jt <| c_seq <| csr <| mvi rfl <| cmp false rfl rfl (by simp only [cmpV]; exact congrArg some (decide_eq_false (by omega))) <| jt <| c_false rfl <| c_skip <| e_then <| csr <| mvp rfl <| nlc rfl <| fad rfl uy108 rfl ty9.sz <| ldp 0 0 _ rfl rfl rfl rfl ty9 <| mvi rfl <| cal (wordEnd_ct s (p + 1) (by omega) (by omega)) [] [0] [_] rfl rfl rfl (by kernel_rfl) impl_nil rfl ?_; rintro _ _ _ ⟨rfl, rfl, rfl⟩; refine ⟨trivial, ?_⟩
  refine agi rfl <| jsr <| mvp rfl <| nlc rfl <| fad rfl uy108 rfl ty9.sz <| ldp 0 0 _ rfl rfl rfl rfl ty9 <| mvi rfl <| mvi rfl <| cutT (s := s) (p + 1) ((p + 1) + wlen s (p + 1)) rfl uy9 ⟨_, rfl⟩ ⟨_, rfl⟩ (by first | omega | (simp; done) | (simp; omega)) (by first | omega | (simp; done) | (simp; omega)) (List.take (((p + 1) + wlen s (p + 1)) - (p + 1)) (List.drop (p + 1) s)) rfl <| j_re 26 (strV (word s (p + 1))) (congrArg strV (take_word s (p + 1))) <| mvi rfl <| cal (rnum_ct (word s (p + 1)) m (by omega) (by omega)) [] [0] [_] rfl rfl rfl (by kernel_rfl) (impl_cons (impl_at 0 rfl) impl_nil) rfl ?_; rintro _ _ _ ⟨rn2, rb2, hry2, hrn2, rfl, rfl, rfl⟩; refine ⟨trivial, ?_⟩
  refine mv (.tuple _) rfl <| xtr (.int _ _) rfl rfl <| xtr (.bool _) rfl rfl <| agi rfl <| agb rfl <| jsr <| mvp rfl <| mvi rfl <| nlc rfl <| fad rfl uy108 rfl ty3.sz <| stp 0 1 _ (p1 (.int .i64 (((p + 1) + wlen s (p + 1) : Nat) : Int))) rfl rfl rfl rfl rfl rfl ty3 ⟨trivial, ?_⟩
  refine jt <| c_seq <| csr <| mvb rfl <| not_ rfl <| jt <| c_cond rfl (fun h1 => ?_) (fun h1 => ?_)
  ·refine c_reg <| mvp rfl <| mvi rfl <| nlc rfl <| fad rfl uy108 rfl ty3.sz <| stp 0 2 _ (p1 (.int .i64 ((p + 1 : Nat) : Int))) rfl rfl rfl rfl rfl rfl ty3 ⟨trivial, ?_⟩
   refine jsr <| mvi rfl <| agi rfl <| jt <| c_ret ?_
   exact j_end (own0 := [[(b, .cells (cat [pt s, p1 (.int .i64 ((p : Nat) : Int)), p1 (.int .i64 (-1))]) 108)]]) (ro0 := [tPow10 9]) (.inl rfl) rfl (hr1 Tryz.results55 (rvt (v := (.int _ _)) rfl)) [0] [] [_] [] [] _ rfl rfl (by kernel_rfl) rfl impl_nil (.inr ⟨rn2, (p + 1), _, numR_bad (by assumption) (fun k hk hb => hrn2 (notT (by assumption)) k hk hb.2), rfl, rfl, rfl⟩)
  ·refine c_skip <| e_then <| csr <| mvi rfl <| agi rfl <| jt <| c_ret ?_
   exact j_end (own0 := [[(b, .cells (cat [pt s, p1 (.int .i64 ((p : Nat) : Int)), p1 (.int .i64 (-1))]) 108)]]) (ro0 := [tPow10 9]) (.inl rfl) rfl (hr1 Tryz.results55 (rvt (v := (.int _ _)) rfl)) [0] [] [_] [] [] _ rfl rfl (by kernel_rfl) rfl impl_nil (.inl ⟨rn2, _, numR_ok (by assumption) (hry2 (notF (by assumption))).1 ⟨by omega, (hry2 (notF (by assumption))).2⟩, rfl, rfl, rfl⟩)
 ·refine ⟨trivial, ?_⟩
  refine agi rfl <| jt <| c_seq <| csr <| mvi rfl <| cmp true rfl rfl rfl <| jt <| c_true rfl <| csr <| agi rfl <| jt <| c_ret ?_
  exact j_end (own0 := [[(b, .cells (cat [pt s, p1 (.int .i64 ((p : Nat) : Int)), p1 (.int .i64 (-1))]) 108)]]) (ro0 := [tPow10 9]) (.inl rfl) rfl (hr1 Tryz.results55 (rvt (v := (.int _ _)) rfl)) [0] [] [_] [] [] _ rfl rfl (by kernel_rfl) rfl impl_nil (.inr ⟨(0 : UInt64), p, p, numR_no (by assumption), rfl, rfl, rfl⟩)
theorem rdfl_bad (b : Nat) (s : Str) (p k : Nat) (m : UInt64) : Ct Tryz.prog 54 [.pointer (some ⟨b, 0, none⟩), .int .u64 (m.toNat : Int)] [[(b, .cells (cat [pt s, p1 (.int .i64 ((p : Nat) : Int)), p1 (.int .i64 ((k : Nat) : Int))]) 108)]] [] (fun v o r => v = .float .f64 0 ∧ o = [[(b, .cells (cat [pt s, p1 (.int .i64 ((p : Nat) : Int)), p1 (.int .i64 ((k : Nat) : Int))]) 108)]] ∧ r = []) := by
 refine ct_enter Tryz.func54 rfl Tryz.ntmps54 (by kernel_rfl) rfl fun w0 => ?_
 refine csr <| asg (.float _ _) rfl <| jsr <| mvp rfl <| cal (rbegin_bad b s p k) [0] [] [] rfl rfl rfl (by kernel_rfl) impl_nil rfl ?_; rintro _ _ _ ⟨rfl, rfl, rfl⟩; refine ⟨trivial, ?_⟩
 refine agi rfl <| jt <| c_seq <| csr <| mvi rfl <| cmp true rfl rfl rfl <| jt <| c_true rfl <| csr <| asg (.float _ _) rfl <| jt <| c_ret ?_
 exact j_end (own0 := [[(b, .cells (cat [pt s, p1 (.int .i64 ((p : Nat) : Int)), p1 (.int .i64 ((k : Nat) : Int))]) 108)]]) (ro0 := []) (.inl rfl) rfl (hr1 Tryz.results54 (rvt (v := (.float _ _)) rfl)) [0] [] [_] [] [] _ rfl rfl (by kernel_rfl) rfl impl_nil (⟨rfl, rfl, rfl⟩)
theorem rdfl_ct (b : Nat) (s : Str) (p : Nat) (hs : s.length ≤ 140737488351232) (hp : p ≤ s.length) (m : UInt64) (M : F64) (hm : m.toNat < 9223372036854775808) (hM : ∀ f : F64, decide (floatV f.b m = 0) = !oddB f M) : Ct Tryz.prog 54 [.pointer (some ⟨b, 0, none⟩), .int .u64 (m.toNat : Int)] [[(b, .cells (cat [pt s, p1 (.int .i64 ((p : Nat) : Int)), p1 (.int .i64 (-1))]) 108)]] [] (fun v o r => (∃ (n : F64) (q : Nat), degR s M p = .inr (n, q) ∧ v = .float .f64 n.b.toNat ∧ o = [[(b, .cells (cat [pt s, p1 (.int .i64 ((q : Nat) : Int)), p1 (.int .i64 (-1))]) 108)]] ∧ r = []) ∨ (∃ (n : F64) (q a : Nat), degR s M p = .inl q ∧ v = .float .f64 n.b.toNat ∧ o = [[(b, .cells (cat [pt s, p1 (.int .i64 ((a : Nat) : Int)), p1 (.int .i64 ((q : Nat) : Int))]) 108)]] ∧ r = [])) := by
 have HWL := wlen_le s (p + 1)
 have HWW := word_length s (p + 1)
 refine ct_enter Tryz.func54 rfl Tryz.ntmps54 (by kernel_rfl) rfl fun w0 => ?_
 refine csr <| asg (.float _ _) rfl <| jsr <| mvp rfl <| cal (rbegin_ct b s p (by omega) (by omega)) [0] [] [] rfl rfl rfl (by kernel_rfl) impl_nil rfl ?_; rintro _ _ _ (⟨hbl1, rfl, rfl, rfl⟩ | ⟨hbl1, rfl, rfl, rfl⟩)
 ·have hpl1 := blk_lt hbl1; refine ⟨trivial, ?_⟩
  refine agi rfl <| jt <| c_seq <| csr <| mvi rfl <| cmp false rfl rfl (by simp only [cmpV]; exact congrArg some (decide_eq_false (by omega))) <| jt <| c_false rfl <| c_skip <| e_then <| csr <| mvp rfl <| nlc rfl <| fad rfl uy108 rfl ty9.sz <| ldp 0 0 _ rfl rfl rfl rfl ty9 <| mvi rfl <| cal (wordEnd_ct s (p + 1) (by omega) (by omega)) [] [0] [_] rfl rfl rfl (by kernel_rfl) impl_nil rfl ?_; rintro _ _ _ ⟨rfl, rfl, rfl⟩; refine ⟨trivial, ?_⟩
  refine agi rfl <| jsr <| mvp rfl <| nlc rfl <| fad rfl uy108 rfl ty9.sz <| ldp 0 0 _ rfl rfl rfl rfl ty9 <| mvi rfl <| mvi rfl <| cutT (s := s) (p + 1) ((p + 1) + wlen s (p + 1)) rfl uy9 ⟨_, rfl⟩ ⟨_, rfl⟩ (by first | omega | (simp; done) | (simp; omega)) (by first | omega | (simp; done) | (simp; omega)) (List.take (((p + 1) + wlen s (p + 1)) - (p + 1)) (List.drop (p + 1) s)) rfl <| j_re 27 (strV (word s (p + 1))) (congrArg strV (take_word s (p + 1))) <| cal (bits_ct (word s (p + 1)) (by omega)) [] [0] [_] rfl rfl rfl (by kernel_rfl) impl_nil rfl ?_; rintro _ _ _ ⟨bn2, bb2, hby2, hbn2, rfl, rfl, rfl⟩; refine ⟨trivial, ?_⟩
  refine mv (.tuple _) rfl <| xtr (.int _ _) rfl rfl <| xtr (.bool _) rfl rfl <| agi rfl <| agb rfl <| jsr <| mvi rfl <| xcal (args := [.int .u64 (bn2.toNat : Int)]) (.float .f64 bn2.toNat) Tryz.func93 (by kernel_rfl) (by kernel_rfl) (by kernel_rfl) (fun w => rfl) (by kernel_rfl) rfl <| asg (.float _ _) rfl <| jsr <| mvp rfl <| mvi rfl <| nlc rfl <| fad rfl uy108 rfl ty3.sz <| stp 0 1 _ (p1 (.int .i64 (((p + 1) + wlen s (p + 1) : Nat) : Int))) rfl rfl rfl rfl rfl rfl ty3 ⟨trivial, ?_⟩
  refine jt <| c_seq <| csr <| mvb rfl <| not_ rfl <| mvb rfl <| jsplit 39 rfl (fun h1 => ?_) (fun h1 => ?_)
  ·refine g_off rfl rfl rfl rfl <| g_off rfl rfl rfl rfl <| g_off rfl rfl rfl rfl <| g_off rfl rfl rfl rfl <| pkt (.bool _) rfl rfl <| jt <| c_true rfl <| csr <| mvp rfl <| mvi rfl <| nlc rfl <| fad rfl uy108 rfl ty3.sz <| stp 0 2 _ (p1 (.int .i64 ((p + 1 : Nat) : Int))) rfl rfl rfl rfl rfl rfl ty3 ⟨trivial, ?_⟩
   refine jsr <| asg (.float _ _) rfl <| jt <| c_ret ?_
   exact j_end (own0 := [[(b, .cells (cat [pt s, p1 (.int .i64 ((p : Nat) : Int)), p1 (.int .i64 (-1))]) 108)]]) (ro0 := []) (.inl rfl) rfl (hr1 Tryz.results54 (rvt (v := (.float _ _)) rfl)) [0] [] [_] [] [] _ rfl rfl (by kernel_rfl) rfl impl_nil (.inr ⟨⟨0⟩, (p + 1), _, degR_l (hexR_bad (by assumption) (by rw [← word_length]; exact hbn2 (notT (by assumption)))), rfl, rfl, rfl⟩)
  ·refine g_on rfl rfl rfl <| mv (.float _ _) rfl <| g_on rfl rfl rfl <| mvi rfl <| g_on rfl rfl rfl <| cal (onEarth_ct (⟨bn2⟩ : F64) m hm) [] [0] [_] rfl rfl rfl (by kernel_rfl) impl_nil rfl ?_; rintro _ _ _ ⟨rfl, rfl, rfl⟩; refine ⟨trivial, ?_⟩
   refine g_on rfl rfl rfl <| not_ rfl <| pkf (.bool _) rfl rfl <| jt <| c_cond rfl (fun h2 => ?_) (fun h2 => ?_)
   ·replace h2 := ndt h2
    refine csr <| mvp rfl <| mvi rfl <| nlc rfl <| fad rfl uy108 rfl ty3.sz <| stp 0 2 _ (p1 (.int .i64 ((p + 1 : Nat) : Int))) rfl rfl rfl rfl rfl rfl ty3 ⟨trivial, ?_⟩
    refine jsr <| asg (.float _ _) rfl <| jt <| c_ret ?_
    exact j_end (own0 := [[(b, .cells (cat [pt s, p1 (.int .i64 ((p : Nat) : Int)), p1 (.int .i64 (-1))]) 108)]]) (ro0 := []) (.inl rfl) rfl (hr1 Tryz.results54 (rvt (v := (.float _ _)) rfl)) [0] [] [_] [] [] _ rfl rfl (by kernel_rfl) rfl impl_nil (.inr ⟨⟨0⟩, (p + 1), _, degR_odd (hexR_ok (by assumption) (by rw [← word_length]; exact (hby2 (notF (by assumption))).1) (hby2 (notF (by assumption))).2.1) (by rw [← (hby2 (notF (by assumption))).2.2]; exact earth_odd hM (by assumption)), rfl, rfl, rfl⟩)
   ·replace h2 := ndf h2
    refine c_skip <| e_then <| csr <| mv (.float _ _) rfl <| asg (.float _ _) rfl <| jt <| c_ret ?_
    exact j_end (own0 := [[(b, .cells (cat [pt s, p1 (.int .i64 ((p : Nat) : Int)), p1 (.int .i64 (-1))]) 108)]]) (ro0 := []) (.inl rfl) rfl (hr1 Tryz.results54 (rvt (v := (.float _ _)) rfl)) [0] [] [_] [] [] _ rfl rfl (by kernel_rfl) rfl impl_nil (.inl ⟨⟨bn2⟩, _, by rw [(hby2 (notF (by assumption))).2.2]; exact degR_ok (hexR_ok (by assumption) (by rw [← word_length]; exact (hby2 (notF (by assumption))).1) (hby2 (notF (by assumption))).2.1) (by rw [← (hby2 (notF (by assumption))).2.2]; exact earth_ok hM (by assumption)), rfl, rfl, rfl⟩)
 ·refine ⟨trivial, ?_⟩
  refine agi rfl <| jt <| c_seq <| csr <| mvi rfl <| cmp true rfl rfl rfl <| jt <| c_true rfl <| csr <| asg (.float _ _) rfl <| jt <| c_ret ?_
  exact j_end (own0 := [[(b, .cells (cat [pt s, p1 (.int .i64 ((p : Nat) : Int)), p1 (.int .i64 (-1))]) 108)]]) (ro0 := []) (.inl rfl) rfl (hr1 Tryz.results54 (rvt (v := (.float _ _)) rfl)) [0] [] [_] [] [] _ rfl rfl (by kernel_rfl) rfl impl_nil (.inr ⟨⟨0⟩, p, p, degR_l (hexR_no (by assumption)), rfl, rfl, rfl⟩)
theorem rdkey_bad (b : Nat) (s : Str) (p k : Nat) : Ct Tryz.prog 56 [.pointer (some ⟨b, 0, none⟩)] [[(b, .cells (cat [pt s, p1 (.int .i64 ((p : Nat) : Int)), p1 (.int .i64 ((k : Nat) : Int))]) 108)]] [] (fun v o r => v = val (zarr : Key) ∧ o = [[(b, .cells (cat [pt s, p1 (.int .i64 ((p : Nat) : Int)), p1 (.int .i64 ((k : Nat) : Int))]) 108)]] ∧ r = []) := by
 refine ct_enter Tryz.func56 rfl Tryz.ntmps56 (by kernel_rfl) rfl fun w0 => ?_
 refine csr <| alo [pt (zarr : (Arr UInt8 32))] _ z74 rfl fun b2 => ⟨trivial, ?_⟩
 refine jsr <| alo [pt (zarr : (Arr UInt8 32))] _ z74 rfl fun b3 => ⟨trivial, ?_⟩
 refine jsr <| mvp rfl <| cal (rbegin_bad b s p k) [0] [1, 2] [_, _] rfl rfl rfl (by kernel_rfl) impl_nil rfl ?_; rintro _ _ _ ⟨rfl, rfl, rfl⟩; refine ⟨trivial, ?_⟩
 refine agi rfl <| jt <| c_seq <| csr <| mvi rfl <| cmp true rfl rfl rfl <| jt <| c_true rfl <| csr <| ldp 1 0 _ rfl rfl rfl rfl ty74 <| stw 0 _ [pt (zarr : (Arr UInt8 32))] rfl rfl rfl rfl ty74 ⟨trivial, ?_⟩
 refine jt <| c_ret ?_
 exact j_end (own0 := [[(b, .cells (cat [pt s, p1 (.int .i64 ((p : Nat) : Int)), p1 (.int .i64 ((k : Nat) : Int))]) 108)]]) (ro0 := []) (.inl rfl) rfl (hr1 Tryz.results56 (rvc (p := pt (zarr : (Arr UInt8 32))) 0 rfl rfl rfl ty74)) [2] [0, 1] [_] [_, _] [] _ rfl rfl (by kernel_rfl) rfl impl_nil (⟨rfl, rfl, rfl⟩)
theorem rdkey_ct (b : Nat) (s : Str) (p : Nat) (hs : s.length ≤ 140737488351232) (hp : p ≤ s.length) : Ct Tryz.prog 56 [.pointer (some ⟨b, 0, none⟩)] [[(b, .cells (cat [pt s, p1 (.int .i64 ((p : Nat) : Int)), p1 (.int .i64 (-1))]) 108)]] [] (fun v o r => (∃ (n : Key) (q : Nat), (∃ w : Str, hexR s 32 p = .inr (w, q) ∧ n = mkKey (hexb w 32)) ∧ v = val n ∧ o = [[(b, .cells (cat [pt s, p1 (.int .i64 ((q : Nat) : Int)), p1 (.int .i64 (-1))]) 108)]] ∧ r = []) ∨ (∃ (n : Key) (q a : Nat), hexR s 32 p = .inl q ∧ v = val n ∧ o = [[(b, .cells (cat [pt s, p1 (.int .i64 ((a : Nat) : Int)), p1 (.int .i64 ((q : Nat) : Int))]) 108)]] ∧ r = [])) := by
 have HWL := wlen_le s (p + 1)
 have HWW := word_length s (p + 1)
 refine ct_enter Tryz.func56 rfl Tryz.ntmps56 (by kernel_rfl) rfl fun w0 => ?_
 refine csr <| alo [pt (zarr : (Arr UInt8 32))] _ z74 rfl fun b2 => ⟨trivial, ?_⟩
 refine jsr <| alo [pt (zarr : (Arr UInt8 32))] _ z74 rfl fun b3 => ⟨trivial, ?_⟩
 refine jsr <| mvp rfl <| cal (rbegin_ct b s p (by omega) (by omega)) [0] [1, 2] [_, _] rfl rfl rfl (by kernel_rfl) impl_nil rfl ?_; rintro _ _ _ (⟨hbl1, rfl, rfl, rfl⟩ | ⟨hbl1, rfl, rfl, rfl⟩)
 ·have hpl1 := blk_lt hbl1; refine ⟨trivial, ?_⟩
  refine agi rfl <| jt <| c_seq <| csr <| mvi rfl <| cmp false rfl rfl (by simp only [cmpV]; exact congrArg some (decide_eq_false (by omega))) <| jt <| c_false rfl <| c_skip <| e_then <| csr <| mvp rfl <| nlc rfl <| fad rfl uy108 rfl ty9.sz <| ldp 2 0 _ rfl rfl rfl rfl ty9 <| mvi rfl <| cal (wordEnd_ct s (p + 1) (by omega) (by omega)) [] [0, 1, 2] [_, _, _] rfl rfl rfl (by kernel_rfl) impl_nil rfl ?_; rintro _ _ _ ⟨rfl, rfl, rfl⟩; refine ⟨trivial, ?_⟩
  refine agi rfl <| jsr <| mvp rfl <| nlc rfl <| fad rfl uy108 rfl ty9.sz <| ldp 2 0 _ rfl rfl rfl rfl ty9 <| mvi rfl <| mvi rfl <| cutT (s := s) (p + 1) ((p + 1) + wlen s (p + 1)) rfl uy9 ⟨_, rfl⟩ ⟨_, rfl⟩ (by first | omega | (simp; done) | (simp; omega)) (by first | omega | (simp; done) | (simp; omega)) (List.take (((p + 1) + wlen s (p + 1)) - (p + 1)) (List.drop (p + 1) s)) rfl <| j_re 27 (strV (word s (p + 1))) (congrArg strV (take_word s (p + 1))) <| ags rfl <| jsr <| mvp rfl <| mvi rfl <| nlc rfl <| fad rfl uy108 rfl ty3.sz <| stp 2 1 _ (p1 (.int .i64 (((p + 1) + wlen s (p + 1) : Nat) : Int))) rfl rfl rfl rfl rfl rfl ty3 ⟨trivial, ?_⟩
  refine jt <| c_seq <| csr <| mvs rfl <| lenT (s := (word s (p + 1))) rfl uy9 <| cmp _ rfl rfl rfl <| jt <| c_cond rfl (fun h1 => ?_) (fun h1 => ?_)
  ·replace h1 := ndt h1
   refine csr <| mvp rfl <| mvi rfl <| nlc rfl <| fad rfl uy108 rfl ty3.sz <| stp 2 2 _ (p1 (.int .i64 ((p + 1 : Nat) : Int))) rfl rfl rfl rfl rfl rfl ty3 ⟨trivial, ?_⟩
   refine jsr <| ldp 1 0 _ rfl rfl rfl rfl ty74 <| stw 0 _ [pt (zarr : (Arr UInt8 32))] rfl rfl rfl rfl ty74 ⟨trivial, ?_⟩
   refine jt <| c_ret ?_
   exact j_end (own0 := [[(b, .cells (cat [pt s, p1 (.int .i64 ((p : Nat) : Int)), p1 (.int .i64 (-1))]) 108)]]) (ro0 := []) (.inl rfl) rfl (hr1 Tryz.results56 (rvc (p := pt (zarr : (Arr UInt8 32))) 0 rfl rfl rfl ty74)) [2] [0, 1] [_] [_, _] [] _ rfl rfl (by kernel_rfl) rfl impl_nil (.inr ⟨(zarr : (Arr UInt8 32)), (p + 1), _, hexR_bad (by assumption) (by omega), rfl, rfl, rfl⟩)
  ·replace h1 := ndf h1
   refine c_skip <| e_then <| c_seq <| csr <| agi rfl <| jt <| c_block <| c_loop (σ := Nat × Key) (fun (i, k) => KB (word s (p + 1)) i k) (fun (i, k) => 32 - i) (fun (i, k) => [(7, .int .i64 (i : Int))]) (fun (i, k) => [[(b2, .cells (cat [pt (zarr : (Arr UInt8 32))]) 74)], [(b3, .cells (cat [pt k]) 74)], [(b, .cells (cat [pt s, p1 (.int .i64 (((p + 1) + wlen s (p + 1) : Nat) : Int)), p1 (.int .i64 (-1))]) 108)]]) (fun (i, k) => []) [7, 8, 9, 40, 41, 42, 43, 44, 45, 46, 47, 48, 49, 50, 51, 52, 53, 54, 55, 56, 57, 58, 59, 60, 61, 62, 63, 64, 65, 66, 67, 68, 69, 70, 71, 72] (0, zarr) (KB.start _) ⟨rfl, trivial⟩ rfl rfl ?_
   rintro ⟨i, k⟩ g1 hI1
   try dsimp only at hI1 ⊢
   have HI32 := hI1.i32
   refine c_seq <| csr <| mvi rfl <| cmp _ rfl rfl rfl <| jt <| c_cond rfl (fun h2 => ?_) (fun h2 => ?_)
   ·replace h2 := of_decide_eq_true h2
    refine c_skip <| e_then <| c_seq <| c_block <| c_seq <| c_dr [_, _, _] [] [(0, 0), (1, 0), (2, 0), (3, 0), (5, 0), (6, 0), (7, 0), (8, 0), (9, 0), (4, 1), (10, 1), (11, 0), (12, 0)] follows (by kernel_rfl) calm_body (keepS [0, 1, 2] rfl) <| mvs rfl <| mvi rfl <| muli rfl rfl rfl (by omega) <| idxT (s := (word s (p + 1))) (2 * i) rfl rfl uy9 (by omega) (by omega) <| mvs rfl <| mvi rfl <| muli rfl rfl rfl (by omega) <| addi rfl rfl rfl (by omega) <| idxT (s := (word s (p + 1))) (2 * i + 1) rfl rfl uy9 (by omega) (by omega) <| cal (digit_ct (List.getD (word s (p + 1)) (2 * i) 0)) [] [0, 1, 2] [_, _, _] rfl rfl rfl (by kernel_rfl) impl_nil rfl ?_; rintro _ _ _ ⟨rfl, rfl, rfl⟩; refine ⟨keepI [0, 1, 2] rfl, ?_⟩
    refine cal (digit_ct (List.getD (word s (p + 1)) (2 * i + 1) 0)) [] [0, 1, 2] [_, _, _] rfl rfl rfl (by kernel_rfl) impl_nil rfl ?_; rintro _ _ _ ⟨rfl, rfl, rfl⟩; refine ⟨keepI [0, 1, 2] rfl, ?_⟩
    refine agi rfl <| agi rfl <| jt <| c_seq <| csr <| mvi rfl <| cmp _ rfl rfl rfl <| mvb rfl <| jsplit 57 rfl (fun h3 => ?_) (fun h3 => ?_)
    ·replace h3 := of_decide_eq_true h3
     refine g_off rfl rfl rfl rfl <| g_off rfl rfl rfl rfl <| pkt (.bool _) rfl rfl <| jt <| c_true rfl <| csr <| mvp rfl <| mvi rfl <| nlc rfl <| fad rfl uy108 rfl ty3.sz <| stp 2 2 _ (p1 (.int .i64 ((p + 1 : Nat) : Int))) rfl rfl rfl rfl rfl rfl ty3 ⟨trivial, ?_⟩
     refine jsr <| ldp 1 0 _ rfl rfl rfl rfl ty74 <| stw 0 _ [pt k] rfl rfl rfl rfl ty74 ⟨trivial, ?_⟩
     refine jt <| c_ret ?_
     exact j_end (own0 := [[(b, .cells (cat [pt s, p1 (.int .i64 ((p : Nat) : Int)), p1 (.int .i64 (-1))]) 108)]]) (ro0 := []) (.inl rfl) rfl (hr1 Tryz.results56 (rvc (p := pt k) 0 rfl rfl rfl ty74)) [2] [0, 1] [_] [_, _] [] _ rfl rfl (by kernel_rfl) rfl impl_nil (.inr ⟨k, (p + 1), _, hexR_bad (by assumption) (by rw [← word_length]; exact KB.no (i := i) (by omega) (by omega) (by omega)), rfl, rfl, rfl⟩)
    ·replace h3 := of_decide_eq_false h3
     refine g_on rfl rfl rfl <| mvi rfl <| g_on rfl rfl rfl <| cmp _ rfl rfl rfl <| pkf (.bool _) rfl rfl <| jt <| c_cond rfl (fun h4 => ?_) (fun h4 => ?_)
     ·replace h4 := of_decide_eq_true h4
      refine csr <| mvp rfl <| mvi rfl <| nlc rfl <| fad rfl uy108 rfl ty3.sz <| stp 2 2 _ (p1 (.int .i64 ((p + 1 : Nat) : Int))) rfl rfl rfl rfl rfl rfl ty3 ⟨trivial, ?_⟩
      refine jsr <| ldp 1 0 _ rfl rfl rfl rfl ty74 <| stw 0 _ [pt k] rfl rfl rfl rfl ty74 ⟨trivial, ?_⟩
      refine jt <| c_ret ?_
      exact j_end (own0 := [[(b, .cells (cat [pt s, p1 (.int .i64 ((p : Nat) : Int)), p1 (.int .i64 (-1))]) 108)]]) (ro0 := []) (.inl rfl) rfl (hr1 Tryz.results56 (rvc (p := pt k) 0 rfl rfl rfl ty74)) [2] [0, 1] [_] [_, _] [] _ rfl rfl (by kernel_rfl) rfl impl_nil (.inr ⟨k, (p + 1), _, hexR_bad (by assumption) (by rw [← word_length]; exact KB.no (i := i) (by omega) (by omega) (by omega)), rfl, rfl, rfl⟩)
     ·replace h4 := of_decide_eq_false h4
      refine c_skip <| e_then <| c_reg <| mvi rfl <| mvi rfl <| mulU64 (a := (hexu (List.getD (word s (p + 1)) (2 * i) 0))) (b := (16 : UInt64)) rfl rfl <| mvi rfl <| addU64 (a := ((hexu (List.getD (word s (p + 1)) (2 * i) 0)) * (16 : UInt64))) (b := (hexu (List.getD (word s (p + 1)) (2 * i + 1) 0))) rfl rfl <| cvNU8 (n := (((hexu (List.getD (word s (p + 1)) (2 * i) 0)) * (16 : UInt64)) + (hexu (List.getD (word s (p + 1)) (2 * i + 1) 0))).toNat) rfl uy72 uy5 <| ixaA i rfl rfl uy74 ty5.sz rfl (by omega) <| sta 1 0 _ k i (UInt8.ofNat ((((hexu (List.getD (word s (p + 1)) (2 * i) 0)) * (16 : UInt64)) + (hexu (List.getD (word s (p + 1)) (2 * i + 1) 0))).toNat)) rfl rfl rfl rfl rfl (by omega) ty5 ⟨trivial, ?_⟩
      refine jn <| e_in <| e_then <| c_reg <| mvi rfl <| addi rfl rfl rfl (by omega) <| agi rfl <| jn ?_
      exact e_loop (i + 1, (Arr.set k i (UInt8.ofNat ((((hexu (List.getD (word s (p + 1)) (2 * i) 0)) * (16 : UInt64)) + (hexu (List.getD (word s (p + 1)) (2 * i + 1) 0))).toNat)))) (KB.go hI1 (by omega) (by omega) (by omega)) (by show 32 - (i + 1) < 32 - i; omega) (⟨rfl, trivial⟩) rfl rfl rfl
   ·replace h2 := of_decide_eq_false h2
    refine c_exit rfl <| e_then <| csr <| ldp 1 0 _ rfl rfl rfl rfl ty74 <| stw 0 _ [pt k] rfl rfl rfl rfl ty74 ⟨trivial, ?_⟩
    refine jt <| c_ret ?_
    exact j_end (own0 := [[(b, .cells (cat [pt s, p1 (.int .i64 ((p : Nat) : Int)), p1 (.int .i64 (-1))]) 108)]]) (ro0 := []) (.inl rfl) rfl (hr1 Tryz.results56 (rvc (p := pt k) 0 rfl rfl rfl ty74)) [2] [0, 1] [_] [_, _] [] _ rfl rfl (by kernel_rfl) rfl impl_nil (.inl ⟨k, _, by rw [(KB.fin hI1 (by omega) (by omega)).2.2]; exact ⟨_, hexR_ok (by assumption) (by rw [← word_length]; exact (KB.fin hI1 (by omega) (by omega)).1) (KB.fin hI1 (by omega) (by omega)).2.1, rfl⟩, rfl, rfl, rfl⟩)
 ·refine ⟨trivial, ?_⟩
  refine agi rfl <| jt <| c_seq <| csr <| mvi rfl <| cmp true rfl rfl rfl <| jt <| c_true rfl <| csr <| ldp 1 0 _ rfl rfl rfl rfl ty74 <| stw 0 _ [pt (zarr : (Arr UInt8 32))] rfl rfl rfl rfl ty74 ⟨trivial, ?_⟩
  refine jt <| c_ret ?_
  exact j_end (own0 := [[(b, .cells (cat [pt s, p1 (.int .i64 ((p : Nat) : Int)), p1 (.int .i64 (-1))]) 108)]]) (ro0 := []) (.inl rfl) rfl (hr1 Tryz.results56 (rvc (p := pt (zarr : (Arr UInt8 32))) 0 rfl rfl rfl ty74)) [2] [0, 1] [_] [_, _] [] _ rfl rfl (by kernel_rfl) rfl impl_nil (.inr ⟨(zarr : (Arr UInt8 32)), p, p, hexR_no (by assumption), rfl, rfl, rfl⟩)
end Go.Proofs.YtakbbpahfclgnaaGreatDoor
namespace Go.Proofs.YtakbbpahfclgnaaGreatDoor
open Go Go.Proofs Go.PW
open Go.PW.Enc (enc val)
theorem qend_self {s : Str} {a : Nat} (h : qend s a = a) : ¬(a < s.length ∧ List.getD s a 0 = 34 ∧ qstop s (a + 1) < s.length) := fun hh => by
  have := qstop_ge s.length s (a + 1) (by omega)
  unfold qend at h; rw [if_pos hh] at h; omega
theorem QuotedB_ct (s : Str) (hu : u8ok s = true) (hl : s.length ≤ 1125899906842624) : Ct Tryz.prog 116 [strV s] [] [tDb64 11] (fun v o r => v = strV (quoteS s) ∧ o = [] ∧ r = []) := by
 refine ct_enter Tryz.func116 rfl Tryz.ntmps116 (by kernel_rfl) rfl fun w0 => ?_
 refine csr <| ags rfl <| jsr <| ags rfl <| jt <| c_seq <| c_block <| c_loop (σ := Str × Str) (fun (t, q) => u8ok t = true ∧ q ++ qbody t = [34] ++ qbody s ∧ q.length + 70 * t.length ≤ 1 + 70 * s.length) (fun (t, q) => t.length) (fun (t, q) => [(0, strV t), (3, strV q)]) (fun (t, q) => []) (fun (t, q) => [tDb64 11]) [0, 3, 4, 5, 6, 7, 8, 9, 10, 11, 12, 13, 14, 15, 16, 17, 18, 19, 20, 21, 22, 23, 24, 25, 26, 27, 28, 29, 30, 31, 32, 33, 34, 35, 36, 37, 38, 39, 40, 41, 42, 43, 44, 45, 46] (s, [34]) (⟨hu, rfl, by simp⟩) ⟨rfl, rfl, trivial⟩ rfl rfl ?_
 rintro ⟨t, q⟩ g1 hI1
 try dsimp only at hI1 ⊢
 refine c_seq <| csr <| mvs rfl <| lenT (s := t) rfl uy9 <| cmp _ rfl rfl rfl <| jt <| c_cond rfl (fun h1 => ?_) (fun h1 => ?_)
 ·replace h1 := of_decide_eq_true h1
  refine c_skip <| e_then <| c_block <| c_seq ?_
  have HS := u8ok_step hI1.1 (by omega)
  have HSL := u8step_le HS (by omega)
  have HB := chr_lt t
  have HF := (fmtN_length 16 (UInt64.ofNat (chr t)).toNat).2
  have HPL := pad_length (k := 1) (s := fmtN 16 (UInt64.ofNat (chr t)).toNat)
  refine c_reg <| mvs rfl <| cal (character_ct t HS (by omega)) [] [] [] rfl rfl rfl (by kernel_rfl) impl_nil rfl ?_; rintro _ _ _ ⟨rfl, rfl, rfl⟩; refine ⟨trivial, ?_⟩
  refine mv (.tuple _) rfl <| xtr (.int _ _) rfl rfl <| xtr (.int _ _) rfl rfl <| agi rfl <| agi rfl <| jt <| c_seq <| c_block <| csr <| mvi rfl <| cmp _ rfl rfl rfl <| mvb rfl <| jsplit 24 rfl (fun h2 => ?_) (fun h2 => ?_)
  ·replace h2 := of_decide_eq_true h2
   refine g_off rfl rfl rfl rfl <| g_off rfl rfl rfl rfl <| pkt (.bool _) rfl rfl <| agb rfl <| jt <| c_true rfl <| c_reg <| mvs rfl <| sadd (a := q) (b := ([92] : Str)) rfl rfl (by first | omega | ((try simp only [List.length_append]); (try simp only [List.length_cons, List.length_nil]); (try simp only [pad_length]); (try simp only [List.length_take]); (try simp only [List.length_drop]); omega)) <| mvs rfl <| cutT (s := t) 0 1 rfl uy9 rfl ⟨_, rfl⟩ (by first | omega | (simp; done) | (simp; omega)) (by first | omega | (simp; done) | (simp; omega)) (List.take 1 t) (cut_lo _ _) <| sadd (a := (q ++ ([92] : Str))) (b := (List.take 1 t)) rfl rfl (by first | omega | ((try simp only [List.length_append]); (try simp only [List.length_cons, List.length_nil]); (try simp only [pad_length]); (try simp only [List.length_take]); (try simp only [List.length_drop]); omega)) <| ags rfl <| jn <| e_in <| e_then <| c_reg <| mvs rfl <| mvi rfl <| cutT (s := t) (u8step t) t.length rfl uy9 ⟨_, rfl⟩ rfl (by first | omega | (simp; done) | (simp; omega)) (by first | omega | (simp; done) | (simp; omega)) (List.drop (u8step t) t) (cut_hi _ _) <| ags rfl <| jn <| e_in ?_
   exact e_loop ((List.drop (u8step t) t), ((q ++ ([92] : Str)) ++ (List.take 1 t))) (⟨u8ok_rest hI1.1 (by omega), by rw [← hI1.2.1, qbody_go HS (by omega)]; (first | rw [qstep_q (by omega), chr_take HS (by omega) (by omega)] | rw [qstep_p (by omega) (by omega), chr_take HS (by omega) (by omega)] | rw [qstep_u (by omega) (by omega), UInt64.toNat_ofNat', Nat.mod_eq_of_lt (by omega), pad_one]); simp, by first | omega | ((try simp only [List.length_append]); (try simp only [List.length_cons, List.length_nil]); (try simp only [pad_length]); (try simp only [List.length_take]); (try simp only [List.length_drop]); omega)⟩) (by have := (u8step_le HS (by omega)); simp; omega) (⟨rfl, rfl, trivial⟩) rfl rfl rfl
  ·replace h2 := of_decide_eq_false h2
   refine g_on rfl rfl rfl <| mvi rfl <| g_on rfl rfl rfl <| cmp _ rfl rfl rfl <| pkf (.bool _) rfl rfl <| agb rfl <| jt <| c_cond rfl (fun h3 => ?_) (fun h3 => ?_)
   ·replace h3 := of_decide_eq_true h3
    refine c_reg <| mvs rfl <| sadd (a := q) (b := ([92] : Str)) rfl rfl (by first | omega | ((try simp only [List.length_append]); (try simp only [List.length_cons, List.length_nil]); (try simp only [pad_length]); (try simp only [List.length_take]); (try simp only [List.length_drop]); omega)) <| mvs rfl <| cutT (s := t) 0 1 rfl uy9 rfl ⟨_, rfl⟩ (by first | omega | (simp; done) | (simp; omega)) (by first | omega | (simp; done) | (simp; omega)) (List.take 1 t) (cut_lo _ _) <| sadd (a := (q ++ ([92] : Str))) (b := (List.take 1 t)) rfl rfl (by first | omega | ((try simp only [List.length_append]); (try simp only [List.length_cons, List.length_nil]); (try simp only [pad_length]); (try simp only [List.length_take]); (try simp only [List.length_drop]); omega)) <| ags rfl <| jn <| e_in <| e_then <| c_reg <| mvs rfl <| mvi rfl <| cutT (s := t) (u8step t) t.length rfl uy9 ⟨_, rfl⟩ rfl (by first | omega | (simp; done) | (simp; omega)) (by first | omega | (simp; done) | (simp; omega)) (List.drop (u8step t) t) (cut_hi _ _) <| ags rfl <| jn <| e_in ?_
    exact e_loop ((List.drop (u8step t) t), ((q ++ ([92] : Str)) ++ (List.take 1 t))) (⟨u8ok_rest hI1.1 (by omega), by rw [← hI1.2.1, qbody_go HS (by omega)]; (first | rw [qstep_q (by omega), chr_take HS (by omega) (by omega)] | rw [qstep_p (by omega) (by omega), chr_take HS (by omega) (by omega)] | rw [qstep_u (by omega) (by omega), UInt64.toNat_ofNat', Nat.mod_eq_of_lt (by omega), pad_one]); simp, by first | omega | ((try simp only [List.length_append]); (try simp only [List.length_cons, List.length_nil]); (try simp only [pad_length]); (try simp only [List.length_take]); (try simp only [List.length_drop]); omega)⟩) (by have := (u8step_le HS (by omega)); simp; omega) (⟨rfl, rfl, trivial⟩) rfl rfl rfl
   ·replace h3 := of_decide_eq_false h3
    refine csr <| mvi rfl <| cmp _ rfl rfl rfl <| mvb rfl <| jsplit 36 rfl (fun h4 => ?_) (fun h4 => ?_)
    ·replace h4 := of_decide_eq_true h4
     refine g_on rfl rfl rfl <| mvi rfl <| g_on rfl rfl rfl <| cmp _ rfl rfl rfl <| pkt (.bool _) rfl rfl <| agb rfl <| jt <| c_cond rfl (fun h5 => ?_) (fun h5 => ?_)
     ·replace h5 := of_decide_eq_true h5
      refine c_reg <| mvs rfl <| mvs rfl <| cutT (s := t) 0 1 rfl uy9 rfl ⟨_, rfl⟩ (by first | omega | (simp; done) | (simp; omega)) (by first | omega | (simp; done) | (simp; omega)) (List.take 1 t) (cut_lo _ _) <| sadd (a := q) (b := (List.take 1 t)) rfl rfl (by first | omega | ((try simp only [List.length_append]); (try simp only [List.length_cons, List.length_nil]); (try simp only [pad_length]); (try simp only [List.length_take]); (try simp only [List.length_drop]); omega)) <| ags rfl <| jn <| e_in <| e_then <| c_reg <| mvs rfl <| mvi rfl <| cutT (s := t) (u8step t) t.length rfl uy9 ⟨_, rfl⟩ rfl (by first | omega | (simp; done) | (simp; omega)) (by first | omega | (simp; done) | (simp; omega)) (List.drop (u8step t) t) (cut_hi _ _) <| ags rfl <| jn <| e_in ?_
      exact e_loop ((List.drop (u8step t) t), (q ++ (List.take 1 t))) (⟨u8ok_rest hI1.1 (by omega), by rw [← hI1.2.1, qbody_go HS (by omega)]; (first | rw [qstep_q (by omega), chr_take HS (by omega) (by omega)] | rw [qstep_p (by omega) (by omega), chr_take HS (by omega) (by omega)] | rw [qstep_u (by omega) (by omega), UInt64.toNat_ofNat', Nat.mod_eq_of_lt (by omega), pad_one]); simp, by first | omega | ((try simp only [List.length_append]); (try simp only [List.length_cons, List.length_nil]); (try simp only [pad_length]); (try simp only [List.length_take]); (try simp only [List.length_drop]); omega)⟩) (by have := (u8step_le HS (by omega)); simp; omega) (⟨rfl, rfl, trivial⟩) rfl rfl rfl
     ·replace h5 := of_decide_eq_false h5
      refine c_reg <| mvs rfl <| sadd (a := q) (b := ([92, 117, 123] : Str)) rfl rfl (by first | omega | ((try simp only [List.length_append]); (try simp only [List.length_cons, List.length_nil]); (try simp only [pad_length]); (try simp only [List.length_take]); (try simp only [List.length_drop]); omega)) <| mvi rfl <| cvNU64 (n := (chr t)) rfl uy3 uy72 <| cal (rhex_ct (UInt64.ofNat (chr t)) 1 (by omega)) [] [] [] rfl rfl rfl (by kernel_rfl) (impl_cons (impl_at 0 rfl) impl_nil) rfl ?_; rintro _ _ _ ⟨rfl, rfl, rfl⟩; refine ⟨trivial, ?_⟩
      refine sadd (a := (q ++ ([92, 117, 123] : Str))) (b := (padN 1 (fmtN 16 (UInt64.ofNat (chr t)).toNat))) rfl rfl (by first | omega | ((try simp only [List.length_append]); (try simp only [List.length_cons, List.length_nil]); (try simp only [pad_length]); (try simp only [List.length_take]); (try simp only [List.length_drop]); omega)) <| sadd (a := ((q ++ ([92, 117, 123] : Str)) ++ (padN 1 (fmtN 16 (UInt64.ofNat (chr t)).toNat)))) (b := ([125] : Str)) rfl rfl (by first | omega | ((try simp only [List.length_append]); (try simp only [List.length_cons, List.length_nil]); (try simp only [pad_length]); (try simp only [List.length_take]); (try simp only [List.length_drop]); omega)) <| ags rfl <| jn <| e_in <| e_then <| c_reg <| mvs rfl <| mvi rfl <| cutT (s := t) (u8step t) t.length rfl uy9 ⟨_, rfl⟩ rfl (by first | omega | (simp; done) | (simp; omega)) (by first | omega | (simp; done) | (simp; omega)) (List.drop (u8step t) t) (cut_hi _ _) <| ags rfl <| jn <| e_in ?_
      exact e_loop ((List.drop (u8step t) t), (((q ++ ([92, 117, 123] : Str)) ++ (padN 1 (fmtN 16 (UInt64.ofNat (chr t)).toNat))) ++ ([125] : Str))) (⟨u8ok_rest hI1.1 (by omega), by rw [← hI1.2.1, qbody_go HS (by omega)]; (first | rw [qstep_q (by omega), chr_take HS (by omega) (by omega)] | rw [qstep_p (by omega) (by omega), chr_take HS (by omega) (by omega)] | rw [qstep_u (by omega) (by omega), UInt64.toNat_ofNat', Nat.mod_eq_of_lt (by omega), pad_one]); simp, by first | omega | ((try simp only [List.length_append]); (try simp only [List.length_cons, List.length_nil]); (try simp only [pad_length]); (try simp only [List.length_take]); (try simp only [List.length_drop]); omega)⟩) (by have := (u8step_le HS (by omega)); simp; omega) (⟨rfl, rfl, trivial⟩) rfl rfl rfl
    ·replace h4 := of_decide_eq_false h4
     refine g_off rfl rfl rfl rfl <| g_off rfl rfl rfl rfl <| pkf (.bool _) rfl rfl <| agb rfl <| jt <| c_false rfl <| c_reg <| mvs rfl <| sadd (a := q) (b := ([92, 117, 123] : Str)) rfl rfl (by first | omega | ((try simp only [List.length_append]); (try simp only [List.length_cons, List.length_nil]); (try simp only [pad_length]); (try simp only [List.length_take]); (try simp only [List.length_drop]); omega)) <| mvi rfl <| cvNU64 (n := (chr t)) rfl uy3 uy72 <| cal (rhex_ct (UInt64.ofNat (chr t)) 1 (by omega)) [] [] [] rfl rfl rfl (by kernel_rfl) (impl_cons (impl_at 0 rfl) impl_nil) rfl ?_; rintro _ _ _ ⟨rfl, rfl, rfl⟩; refine ⟨trivial, ?_⟩
     refine sadd (a := (q ++ ([92, 117, 123] : Str))) (b := (padN 1 (fmtN 16 (UInt64.ofNat (chr t)).toNat))) rfl rfl (by first | omega | ((try simp only [List.length_append]); (try simp only [List.length_cons, List.length_nil]); (try simp only [pad_length]); (try simp only [List.length_take]); (try simp only [List.length_drop]); omega)) <| sadd (a := ((q ++ ([92, 117, 123] : Str)) ++ (padN 1 (fmtN 16 (UInt64.ofNat (chr t)).toNat)))) (b := ([125] : Str)) rfl rfl (by first | omega | ((try simp only [List.length_append]); (try simp only [List.length_cons, List.length_nil]); (try simp only [pad_length]); (try simp only [List.length_take]); (try simp only [List.length_drop]); omega)) <| ags rfl <| jn <| e_in <| e_then <| c_reg <| mvs rfl <| mvi rfl <| cutT (s := t) (u8step t) t.length rfl uy9 ⟨_, rfl⟩ rfl (by first | omega | (simp; done) | (simp; omega)) (by first | omega | (simp; done) | (simp; omega)) (List.drop (u8step t) t) (cut_hi _ _) <| ags rfl <| jn <| e_in ?_
     exact e_loop ((List.drop (u8step t) t), (((q ++ ([92, 117, 123] : Str)) ++ (padN 1 (fmtN 16 (UInt64.ofNat (chr t)).toNat))) ++ ([125] : Str))) (⟨u8ok_rest hI1.1 (by omega), by rw [← hI1.2.1, qbody_go HS (by omega)]; (first | rw [qstep_q (by omega), chr_take HS (by omega) (by omega)] | rw [qstep_p (by omega) (by omega), chr_take HS (by omega) (by omega)] | rw [qstep_u (by omega) (by omega), UInt64.toNat_ofNat', Nat.mod_eq_of_lt (by omega), pad_one]); simp, by first | omega | ((try simp only [List.length_append]); (try simp only [List.length_cons, List.length_nil]); (try simp only [pad_length]); (try simp only [List.length_take]); (try simp only [List.length_drop]); omega)⟩) (by have := (u8step_le HS (by omega)); simp; omega) (⟨rfl, rfl, trivial⟩) rfl rfl rfl
 ·replace h1 := of_decide_eq_false h1
  refine c_exit rfl <| e_then <| csr <| mvs rfl <| sadd (a := q) (b := ([34] : Str)) rfl rfl (by first | omega | ((try simp only [List.length_append]); (try simp only [List.length_cons, List.length_nil]); (try simp only [pad_length]); (try simp only [List.length_take]); (try simp only [List.length_drop]); omega)) <| ags rfl <| jt <| c_ret ?_
  exact j_z (own0 := []) (ro0 := [tDb64 11]) (.inl rfl) rfl (hr1 Tryz.results116 (rvt (v := (.string _)) rfl)) rfl (⟨by rw [show q = [34] ++ qbody s by rw [← hI1.2.1, qbody_nil (by omega)]; simp]; rfl, rfl, rfl⟩)
theorem unq_ct (q : Str) (hq : q.length ≤ 140737488351232) (h2 : 2 ≤ q.length) : Ct Tryz.prog 90 [strV q] [] [tDb64 11] (fun v o r => ∃ (x : Str) (t : Bool), (t = true → u8ok x = true ∧ quoteS x = q) ∧ (t = false → ∀ y, u8ok y = true → quoteS y ≠ q) ∧ x.length ≤ 4 * q.length ∧ v = .tuple #[strV x, .bool t] ∧ o = [] ∧ r = []) := by
 refine ct_enter Tryz.func90 rfl Tryz.ntmps90 (by kernel_rfl) rfl fun w0 => ?_
 refine csr <| ags rfl <| agb rfl <| jsr <| ags rfl <| jt <| c_seq <| csr <| agi rfl <| jt <| c_block <| c_loop (σ := Nat × Str) (fun (i, x) => RQ q x i) (fun (i, x) => q.length + 2 - i) (fun (i, x) => [(5, .int .i64 (i : Int)), (4, strV x)]) (fun (i, x) => []) (fun (i, x) => [tDb64 11]) [4, 5, 6, 7, 8, 9, 10, 11, 12, 13, 14, 15, 16, 17, 18, 19, 20, 21, 22, 23, 24, 25, 26, 27, 28, 29, 30, 31, 32, 33, 34, 35, 36, 37, 38, 39, 40, 41, 42, 43, 44, 45, 46, 47, 48, 49, 50, 51, 52, 53, 54, 55, 56, 57, 58, 59, 60, 61, 62, 63, 64, 65, 66, 67, 68, 69, 70, 71, 72, 73, 74, 75, 76, 77, 78, 79, 80, 81, 82] (1, []) (RQ.start h2) ⟨rfl, rfl, trivial⟩ rfl rfl ?_
 rintro ⟨i, x⟩ g1 hI1
 try dsimp only at hI1 ⊢
 have HLE := hI1.le
 have HLN := hI1.len
 refine c_seq <| csr <| mvi rfl <| mvs rfl <| lenT (s := q) rfl uy9 <| subi rfl rfl rfl (by omega) <| cmp _ rfl rfl rfl <| jt <| c_cond rfl (fun h1 => ?_) (fun h1 => ?_)
 ·replace h1 := of_decide_eq_true h1
  refine c_skip <| e_then <| c_seq <| c_block <| c_seq <| csr <| mvs rfl <| mvi rfl <| idxT (s := q) i rfl rfl uy9 rfl (by first | omega | (simp; done) | (simp; omega) | (simp at *; omega)) <| equ8 (a := (List.getD q i 0)) (b := (92 : UInt8)) _ rfl rfl rfl <| jt <| c_cond rfl (fun h2 => ?_) (fun h2 => ?_)
  ·replace h2 := ndt h2
   refine csr <| mvs rfl <| mvs rfl <| mvi rfl <| mvi rfl <| addi rfl rfl rfl (by omega) <| cutT (s := q) i (i + 1) rfl uy9 ⟨_, rfl⟩ ⟨_, rfl⟩ (by first | omega | (simp; done) | (simp; omega)) (by first | omega | (simp; done) | (simp; omega)) (List.take ((i + 1) - i) (List.drop i q)) rfl <| sadd (a := x) (b := (List.take ((i + 1) - i) (List.drop i q))) rfl rfl (by first | omega | ((try simp only [List.length_append]); (try simp only [List.length_cons, List.length_nil]); (try simp only [pad_length]); (try simp only [List.length_take]); (try simp only [List.length_drop]); omega)) <| ags rfl <| jt <| c_exit rfl <| e_then <| c_reg <| mvi rfl <| addi rfl rfl rfl (by omega) <| agi rfl <| jn ?_
   exact e_lp ((i + 1), (x ++ (List.take ((i + 1) - i) (List.drop i q)))) (by repeat (first | exact out_self | refine out_hav (by kernel_rfl) ?_ | refine out_look (by kernel_rfl) ?_)) (RQ.one hI1 (by omega) (by assumption)) (by show q.length + 2 - _ < q.length + 2 - i; omega) (⟨rfl, rfl, trivial⟩) rfl rfl rfl
  ·replace h2 := ndf h2
   refine c_skip <| e_then <| csr <| mvi rfl <| addi rfl rfl rfl (by omega) <| agi rfl <| jt <| c_seq <| csr <| mvi rfl <| addi rfl rfl rfl (by omega) <| mvs rfl <| lenT (s := q) rfl uy9 <| subi rfl rfl rfl (by omega) <| cmp _ rfl rfl rfl <| mvb rfl <| jsplit 33 rfl (fun h3 => ?_) (fun h3 => ?_)
   ·replace h3 := of_decide_eq_true h3
    refine g_on rfl rfl rfl <| mvs rfl <| g_on rfl rfl rfl <| mvi rfl <| g_on rfl rfl rfl <| idxT (s := q) (i + 1) rfl rfl uy9 rfl (by first | omega | (simp; done) | (simp; omega) | (simp at *; omega)) <| g_on rfl rfl rfl <| equ8 (a := (List.getD q (i + 1) 0)) (b := (117 : UInt8)) _ rfl rfl rfl <| pkt (.bool _) rfl rfl <| mvb rfl <| jsplit 39 rfl (fun h4 => ?_) (fun h4 => ?_)
    ·replace h4 := of_decide_eq_true h4
     refine g_on rfl rfl rfl <| mvs rfl <| g_on rfl rfl rfl <| mvi rfl <| g_on rfl rfl rfl <| addi rfl rfl rfl (by omega) <| g_on rfl rfl rfl <| idxT (s := q) ((i + 1) + 1) rfl rfl uy9 rfl (by first | omega | (simp; done) | (simp; omega) | (simp at *; omega)) <| g_on rfl rfl rfl <| equ8 (a := (List.getD q ((i + 1) + 1) 0)) (b := (123 : UInt8)) _ rfl rfl rfl <| pkt (.bool _) rfl rfl <| jt <| c_cond rfl (fun h5 => ?_) (fun h5 => ?_)
     ·replace h5 := of_decide_eq_true h5
      refine csr <| agi rfl <| jt <| c_seq <| csr <| mvi rfl <| addi rfl rfl rfl (by omega) <| agi rfl <| jt <| c_block <| c_loop (σ := Nat × UInt64) (fun (j, n) => RN q x j n ∧ i + 3 ≤ j) (fun (j, n) => q.length - j) (fun (j, n) => [(5, .int .i64 (j : Int)), (6, .int .u64 (n.toNat : Int))]) (fun (j, n) => []) (fun (j, n) => [tDb64 11]) [5, 6, 48, 49, 50, 51, 52, 53, 54, 55, 56, 57, 58, 59, 60, 61, 62, 63, 64, 65, 66, 67, 68, 69, 70, 71] (i + 1 + 2, 0) (⟨RN.start hI1 (by omega) (by assumption) ⟨by omega, by assumption, by assumption⟩, by omega⟩) ⟨rfl, rfl, trivial⟩ rfl rfl ?_
      rintro ⟨j, n⟩ g2 hI2
      try dsimp only at hI2 ⊢
      have HLE2 := hI2.1.le
      have HLN2 := hI2.1.len
      have HEV := encv_len n.toNat
      refine c_seq <| csr <| mvi rfl <| mvs rfl <| lenT (s := q) rfl uy9 <| subi rfl rfl rfl (by omega) <| cmp _ rfl rfl rfl <| mvb rfl <| jsplit 53 rfl (fun h6 => ?_) (fun h6 => ?_)
      ·replace h6 := of_decide_eq_true h6
       refine g_on rfl rfl rfl <| mvs rfl <| g_on rfl rfl rfl <| mvi rfl <| g_on rfl rfl rfl <| idxT (s := q) j rfl rfl uy9 rfl (by first | omega | (simp; done) | (simp; omega) | (simp at *; omega)) <| g_on rfl rfl rfl <| equ8 (a := (List.getD q j 0)) (b := (125 : UInt8)) _ rfl rfl rfl <| pkt (.bool _) rfl rfl <| mvb rfl <| jsplit 59 rfl (fun h7 => ?_) (fun h7 => ?_)
       ·replace h7 := ndt h7
        refine g_on rfl rfl rfl <| mvi rfl <| g_on rfl rfl rfl <| cmp _ rfl rfl rfl <| pkt (.bool _) rfl rfl <| jt <| c_cond rfl (fun h8 => ?_) (fun h8 => ?_)
        ·replace h8 := of_decide_eq_true h8
         refine c_skip <| e_then <| c_seq <| c_block <| c_reg <| mvi rfl <| mulU64 (a := n) (b := (16 : UInt64)) rfl rfl <| mvs rfl <| mvi rfl <| idxT (s := q) j rfl rfl uy9 rfl (by first | omega | (simp; done) | (simp; omega) | (simp at *; omega)) <| cal (digit_ct (List.getD q j 0)) [] [] [] rfl rfl rfl (by kernel_rfl) impl_nil rfl ?_; rintro _ _ _ ⟨rfl, rfl, rfl⟩; refine ⟨trivial, ?_⟩
         refine addU64 (a := (n * (16 : UInt64))) (b := (hexu (List.getD q j 0))) rfl rfl <| agi rfl <| jn <| e_in <| e_then <| c_reg <| mvi rfl <| addi rfl rfl rfl (by omega) <| agi rfl <| jn ?_
         exact e_loop (j + 1, ((n * (16 : UInt64)) + (hexu (List.getD q j 0)))) (⟨RN.go hI2.1 (by omega) (by assumption) (by omega), by omega⟩) (by show q.length - (j + 1) < q.length - j; omega) (⟨rfl, rfl, trivial⟩) rfl rfl rfl
        ·replace h8 := of_decide_eq_false h8
         refine c_exit rfl <| e_then <| csr <| mvs rfl <| mvi rfl <| cal (utf8_ct n) [] [] [] rfl rfl rfl (by kernel_rfl) impl_nil rfl ?_; rintro _ _ _ ⟨rfl, rfl, rfl⟩; refine ⟨trivial, ?_⟩
         refine sadd (a := x) (b := (encv n.toNat)) rfl rfl (by first | omega | ((try simp only [List.length_append]); (try simp only [List.length_cons, List.length_nil]); (try simp only [pad_length]); (try simp only [List.length_take]); (try simp only [List.length_drop]); omega)) <| ags rfl <| jt <| c_exit rfl <| e_then <| c_reg <| mvi rfl <| addi rfl rfl rfl (by omega) <| agi rfl <| jn ?_
         exact e_lp ((j + 1), (x ++ (encv n.toNat))) (by repeat (first | exact out_self | refine out_hav (by kernel_rfl) ?_ | refine out_look (by kernel_rfl) ?_)) (RN.fin hI2.1 (fun hh => by first | omega | exact hh.2.1 (by assumption))) (by show q.length + 2 - _ < q.length + 2 - i; omega) (⟨rfl, rfl, trivial⟩) rfl rfl rfl
       ·replace h7 := ndf h7
        refine g_off rfl rfl rfl rfl <| g_off rfl rfl rfl rfl <| pkf (.bool _) rfl rfl <| jt <| c_false rfl <| c_exit rfl <| e_then <| csr <| mvs rfl <| mvi rfl <| cal (utf8_ct n) [] [] [] rfl rfl rfl (by kernel_rfl) impl_nil rfl ?_; rintro _ _ _ ⟨rfl, rfl, rfl⟩; refine ⟨trivial, ?_⟩
        refine sadd (a := x) (b := (encv n.toNat)) rfl rfl (by first | omega | ((try simp only [List.length_append]); (try simp only [List.length_cons, List.length_nil]); (try simp only [pad_length]); (try simp only [List.length_take]); (try simp only [List.length_drop]); omega)) <| ags rfl <| jt <| c_exit rfl <| e_then <| c_reg <| mvi rfl <| addi rfl rfl rfl (by omega) <| agi rfl <| jn ?_
        exact e_lp ((j + 1), (x ++ (encv n.toNat))) (by repeat (first | exact out_self | refine out_hav (by kernel_rfl) ?_ | refine out_look (by kernel_rfl) ?_)) (RN.fin hI2.1 (fun hh => by first | omega | exact hh.2.1 (by assumption))) (by show q.length + 2 - _ < q.length + 2 - i; omega) (⟨rfl, rfl, trivial⟩) rfl rfl rfl
      ·replace h6 := of_decide_eq_false h6
       refine g_off rfl rfl rfl rfl <| g_off rfl rfl rfl rfl <| g_off rfl rfl rfl rfl <| g_off rfl rfl rfl rfl <| pkf (.bool _) rfl rfl <| mvb rfl <| g_off rfl rfl rfl rfl <| g_off rfl rfl rfl rfl <| pkf (.bool _) rfl rfl <| jt <| c_false rfl <| c_exit rfl <| e_then <| csr <| mvs rfl <| mvi rfl <| cal (utf8_ct n) [] [] [] rfl rfl rfl (by kernel_rfl) impl_nil rfl ?_; rintro _ _ _ ⟨rfl, rfl, rfl⟩; refine ⟨trivial, ?_⟩
       refine sadd (a := x) (b := (encv n.toNat)) rfl rfl (by first | omega | ((try simp only [List.length_append]); (try simp only [List.length_cons, List.length_nil]); (try simp only [pad_length]); (try simp only [List.length_take]); (try simp only [List.length_drop]); omega)) <| ags rfl <| jt <| c_exit rfl <| e_then <| c_reg <| mvi rfl <| addi rfl rfl rfl (by omega) <| agi rfl <| jn ?_
       exact e_lp ((j + 1), (x ++ (encv n.toNat))) (by repeat (first | exact out_self | refine out_hav (by kernel_rfl) ?_ | refine out_look (by kernel_rfl) ?_)) (RN.fin hI2.1 (fun hh => by first | omega | exact hh.2.1 (by assumption))) (by show q.length + 2 - _ < q.length + 2 - i; omega) (⟨rfl, rfl, trivial⟩) rfl rfl rfl
     ·replace h5 := of_decide_eq_false h5
      refine c_skip <| e_then <| c_reg <| mvs rfl <| mvs rfl <| mvi rfl <| mvi rfl <| addi rfl rfl rfl (by omega) <| cutT (s := q) (i + 1) ((i + 1) + 1) rfl uy9 ⟨_, rfl⟩ ⟨_, rfl⟩ (by first | omega | (simp; done) | (simp; omega)) (by first | omega | (simp; done) | (simp; omega)) (List.take (((i + 1) + 1) - (i + 1)) (List.drop (i + 1) q)) rfl <| sadd (a := x) (b := (List.take (((i + 1) + 1) - (i + 1)) (List.drop (i + 1) q))) rfl rfl (by first | omega | ((try simp only [List.length_append]); (try simp only [List.length_cons, List.length_nil]); (try simp only [pad_length]); (try simp only [List.length_take]); (try simp only [List.length_drop]); omega)) <| ags rfl <| jn <| e_in <| e_then <| c_reg <| mvi rfl <| addi rfl rfl rfl (by omega) <| agi rfl <| jn ?_
      exact e_lp (((i + 1) + 1), (x ++ (List.take (((i + 1) + 1) - (i + 1)) (List.drop (i + 1) q)))) (by repeat (first | exact out_self | refine out_hav (by kernel_rfl) ?_ | refine out_look (by kernel_rfl) ?_)) (RQ.two hI1 (by omega) (by assumption) (fun hh => by first | omega | exact absurd hh.2.1 (by assumption) | exact absurd hh.2.2 (by assumption))) (by show q.length + 2 - _ < q.length + 2 - i; omega) (⟨rfl, rfl, trivial⟩) rfl rfl rfl
    ·replace h4 := of_decide_eq_false h4
     refine g_off rfl rfl rfl rfl <| g_off rfl rfl rfl rfl <| g_off rfl rfl rfl rfl <| g_off rfl rfl rfl rfl <| g_off rfl rfl rfl rfl <| pkf (.bool _) rfl rfl <| jt <| c_false rfl <| c_skip <| e_then <| c_reg <| mvs rfl <| mvs rfl <| mvi rfl <| mvi rfl <| addi rfl rfl rfl (by omega) <| cutT (s := q) (i + 1) ((i + 1) + 1) rfl uy9 ⟨_, rfl⟩ ⟨_, rfl⟩ (by first | omega | (simp; done) | (simp; omega)) (by first | omega | (simp; done) | (simp; omega)) (List.take (((i + 1) + 1) - (i + 1)) (List.drop (i + 1) q)) rfl <| sadd (a := x) (b := (List.take (((i + 1) + 1) - (i + 1)) (List.drop (i + 1) q))) rfl rfl (by first | omega | ((try simp only [List.length_append]); (try simp only [List.length_cons, List.length_nil]); (try simp only [pad_length]); (try simp only [List.length_take]); (try simp only [List.length_drop]); omega)) <| ags rfl <| jn <| e_in <| e_then <| c_reg <| mvi rfl <| addi rfl rfl rfl (by omega) <| agi rfl <| jn ?_
     exact e_lp (((i + 1) + 1), (x ++ (List.take (((i + 1) + 1) - (i + 1)) (List.drop (i + 1) q)))) (by repeat (first | exact out_self | refine out_hav (by kernel_rfl) ?_ | refine out_look (by kernel_rfl) ?_)) (RQ.two hI1 (by omega) (by assumption) (fun hh => by first | omega | exact absurd hh.2.1 (by assumption) | exact absurd hh.2.2 (by assumption))) (by show q.length + 2 - _ < q.length + 2 - i; omega) (⟨rfl, rfl, trivial⟩) rfl rfl rfl
   ·replace h3 := of_decide_eq_false h3
    refine g_off rfl rfl rfl rfl <| g_off rfl rfl rfl rfl <| g_off rfl rfl rfl rfl <| g_off rfl rfl rfl rfl <| pkf (.bool _) rfl rfl <| mvb rfl <| g_off rfl rfl rfl rfl <| g_off rfl rfl rfl rfl <| g_off rfl rfl rfl rfl <| g_off rfl rfl rfl rfl <| g_off rfl rfl rfl rfl <| pkf (.bool _) rfl rfl <| jt <| c_false rfl <| c_skip <| e_then <| c_reg <| mvs rfl <| mvs rfl <| mvi rfl <| mvi rfl <| addi rfl rfl rfl (by omega) <| cutT (s := q) (i + 1) ((i + 1) + 1) rfl uy9 ⟨_, rfl⟩ ⟨_, rfl⟩ (by first | omega | (simp; done) | (simp; omega)) (by first | omega | (simp; done) | (simp; omega)) (List.take (((i + 1) + 1) - (i + 1)) (List.drop (i + 1) q)) rfl <| sadd (a := x) (b := (List.take (((i + 1) + 1) - (i + 1)) (List.drop (i + 1) q))) rfl rfl (by first | omega | ((try simp only [List.length_append]); (try simp only [List.length_cons, List.length_nil]); (try simp only [pad_length]); (try simp only [List.length_take]); (try simp only [List.length_drop]); omega)) <| ags rfl <| jn <| e_in <| e_then <| c_reg <| mvi rfl <| addi rfl rfl rfl (by omega) <| agi rfl <| jn ?_
    exact e_lp (((i + 1) + 1), (x ++ (List.take (((i + 1) + 1) - (i + 1)) (List.drop (i + 1) q)))) (by repeat (first | exact out_self | refine out_hav (by kernel_rfl) ?_ | refine out_look (by kernel_rfl) ?_)) (RQ.two hI1 (by omega) (by assumption) (fun hh => by first | omega | exact absurd hh.2.1 (by assumption) | exact absurd hh.2.2 (by assumption))) (by show q.length + 2 - _ < q.length + 2 - i; omega) (⟨rfl, rfl, trivial⟩) rfl rfl rfl
 ·replace h1 := of_decide_eq_false h1
  refine c_exit rfl <| e_then <| csr <| mvs rfl <| mvs rfl <| mvs rfl <| lenT (s := x) rfl uy9 <| cal (text_ct x 0 (x.length : Int) (by omega)) [] [] [] rfl rfl rfl (by kernel_rfl) impl_nil rfl ?_; rintro _ _ _ ⟨rfl, rfl, rfl⟩; refine ⟨trivial, ?_⟩
  refine mvb rfl <| jsplit 88 rfl (fun h9 => ?_) (fun h9 => ?_)
  ·refine g_on rfl rfl rfl <| mvs rfl <| g_on rfl rfl rfl <| cal (QuotedB_ct x (said_u8 (by assumption)) (by omega)) [] [] [] rfl rfl rfl (by kernel_rfl) (impl_cons (impl_at 0 rfl) impl_nil) rfl ?_; rintro _ _ _ ⟨rfl, rfl, rfl⟩; refine ⟨trivial, ?_⟩
   refine g_on rfl rfl rfl <| mvs rfl <| g_on rfl rfl rfl <| scmp (a := (quoteS x)) (b := q) _ rfl rfl uy9 rfl <| pkt (.bool _) rfl rfl <| ags rfl <| agb rfl <| jt <| c_ret ?_
   exact j_z (own0 := []) (ro0 := [tDb64 11]) (.inl rfl) rfl (hr2 Tryz.results90 (rvt (v := (.string _)) rfl) (rvt (v := (.bool _)) rfl)) rfl (⟨x, _, (fun h => ⟨said_u8 (by assumption), of_decide_eq_true h⟩), (fun h y hy e => by have := RQ.fin hI1 (by omega) hy e.symm; subst this; exact of_decide_eq_false h e), by omega, rfl, rfl, rfl⟩)
  ·refine g_off rfl rfl rfl rfl <| g_off rfl rfl rfl rfl <| g_off rfl rfl rfl rfl <| g_off rfl rfl rfl rfl <| pkf (.bool _) rfl rfl <| ags rfl <| agb rfl <| jt <| c_ret ?_
   exact j_z (own0 := []) (ro0 := [tDb64 11]) (.inl rfl) rfl (hr2 Tryz.results90 (rvt (v := (.string _)) rfl) (rvt (v := (.bool _)) rfl)) rfl (⟨x, false, (fun h => by cases h), (fun _ y hy e => by have := RQ.fin hI1 (by omega) hy e.symm; subst this; exact said_no (by assumption) hy ⟨by omega, by omega⟩), by omega, rfl, rfl, rfl⟩)
theorem rdtext_bad (b : Nat) (s : Str) (p k : Nat) (lo hi : Nat) : Ct Tryz.prog 52 [.pointer (some ⟨b, 0, none⟩), .int .i64 (lo : Int), .int .i64 (hi : Int)] [[(b, .cells (cat [pt s, p1 (.int .i64 ((p : Nat) : Int)), p1 (.int .i64 ((k : Nat) : Int))]) 108)]] [] (fun v o r => v = strV [] ∧ o = [[(b, .cells (cat [pt s, p1 (.int .i64 ((p : Nat) : Int)), p1 (.int .i64 ((k : Nat) : Int))]) 108)]] ∧ r = []) := by
 refine ct_enter Tryz.func52 rfl Tryz.ntmps52 (by kernel_rfl) rfl fun w0 => ?_
 refine csr <| ags rfl <| jsr <| mvp rfl <| cal (rbegin_bad b s p k) [0] [] [] rfl rfl rfl (by kernel_rfl) impl_nil rfl ?_; rintro _ _ _ ⟨rfl, rfl, rfl⟩; refine ⟨trivial, ?_⟩
 refine agi rfl <| jt <| c_seq <| csr <| mvi rfl <| cmp true rfl rfl rfl <| jt <| c_true rfl <| csr <| ags rfl <| jt <| c_ret ?_
 exact j_end (own0 := [[(b, .cells (cat [pt s, p1 (.int .i64 ((p : Nat) : Int)), p1 (.int .i64 ((k : Nat) : Int))]) 108)]]) (ro0 := []) (.inl rfl) rfl (hr1 Tryz.results52 (rvt (v := (.string _)) rfl)) [0] [] [_] [] [] _ rfl rfl (by kernel_rfl) rfl impl_nil (⟨rfl, rfl, rfl⟩)
theorem rdtext_ct (b : Nat) (s : Str) (p : Nat) (hs : s.length ≤ 140737488351232) (hp : p ≤ s.length) (lo hi : Nat) (hlo : lo ≤ 1000000) (hhi : hi ≤ 1000000) : Ct Tryz.prog 52 [.pointer (some ⟨b, 0, none⟩), .int .i64 (lo : Int), .int .i64 (hi : Int)] [[(b, .cells (cat [pt s, p1 (.int .i64 ((p : Nat) : Int)), p1 (.int .i64 (-1))]) 108)]] [tDb64 11] (fun v o r => (∃ (n : Str) (q : Nat), textR s lo hi p = .inr (n, q) ∧ v = strV n ∧ o = [[(b, .cells (cat [pt s, p1 (.int .i64 ((q : Nat) : Int)), p1 (.int .i64 (-1))]) 108)]] ∧ r = []) ∨ (∃ (n : Str) (q a : Nat), textR s lo hi p = .inl q ∧ v = strV n ∧ o = [[(b, .cells (cat [pt s, p1 (.int .i64 ((a : Nat) : Int)), p1 (.int .i64 ((q : Nat) : Int))]) 108)]] ∧ r = [])) := by
 have HQE := fun h => qend_le (s := s) (a := p + 1) h
 refine ct_enter Tryz.func52 rfl Tryz.ntmps52 (by kernel_rfl) rfl fun w0 => ?_
 refine csr <| ags rfl <| jsr <| mvp rfl <| cal (rbegin_ct b s p (by omega) (by omega)) [0] [] [] rfl rfl rfl (by kernel_rfl) impl_nil rfl ?_; rintro _ _ _ (⟨hbl1, rfl, rfl, rfl⟩ | ⟨hbl1, rfl, rfl, rfl⟩)
 ·have hpl1 := blk_lt hbl1; refine ⟨trivial, ?_⟩
  refine agi rfl <| jt <| c_seq <| csr <| mvi rfl <| cmp false rfl rfl (by simp only [cmpV]; exact congrArg some (decide_eq_false (by omega))) <| jt <| c_false rfl <| c_skip <| e_then <| csr <| mvp rfl <| nlc rfl <| fad rfl uy108 rfl ty9.sz <| ldp 0 0 _ rfl rfl rfl rfl ty9 <| mvi rfl <| cal (qend_ct s (p + 1) (by omega) (by omega)) [] [0] [_] rfl rfl rfl (by kernel_rfl) impl_nil rfl ?_; rintro _ _ _ ⟨rfl, rfl, rfl⟩; refine ⟨trivial, ?_⟩
  refine agi rfl <| jt <| c_seq <| c_seq ?_
  have HQB := HQE (by omega)
  refine c_reg <| mvi rfl <| mvi rfl <| cmp _ rfl rfl rfl <| jt <| c_cond rfl (fun h1 => ?_) (fun h1 => ?_)
  ·replace h1 := of_decide_eq_true h1
   refine csr <| mvp rfl <| mvi rfl <| nlc rfl <| fad rfl uy108 rfl ty3.sz <| stp 0 2 _ (p1 (.int .i64 ((p + 1 : Nat) : Int))) rfl rfl rfl rfl rfl rfl ty3 ⟨trivial, ?_⟩
   refine jsr <| ags rfl <| jt <| c_ret ?_
   exact j_end (own0 := [[(b, .cells (cat [pt s, p1 (.int .i64 ((p : Nat) : Int)), p1 (.int .i64 (-1))]) 108)]]) (ro0 := [tDb64 11]) (.inl rfl) rfl (hr1 Tryz.results52 (rvt (v := (.string _)) rfl)) [0] [] [_] [] [] _ rfl rfl (by kernel_rfl) rfl impl_nil (.inr ⟨[], (p + 1), p, textR_out (by assumption) (qend_self (by omega)), rfl, rfl, rfl⟩)
  ·replace h1 := of_decide_eq_false h1
   refine c_skip <| e_then <| c_seq ?_
   have HNE : (qend s (p + 1)) ≠ p + 1 := fun hh => by omega
   obtain ⟨HY1, HY2, HY3, HY4, HY5, HY6⟩ := qend_yes HNE
   have HQL := congrArg List.length HY6
   rw [List.length_take, List.length_drop] at HQL
   refine c_reg <| mvp rfl <| nlc rfl <| fad rfl uy108 rfl ty9.sz <| ldp 0 0 _ rfl rfl rfl rfl ty9 <| mvi rfl <| mvi rfl <| cutT (s := s) (p + 1) (qend s (p + 1)) rfl uy9 ⟨_, rfl⟩ ⟨_, rfl⟩ (by first | omega | (simp; done) | (simp; omega)) (by first | omega | (simp; done) | (simp; omega)) (List.take ((qend s (p + 1)) - (p + 1)) (List.drop (p + 1) s)) rfl <| j_re 35 (strV ([34] ++ qin s (p + 1) ++ [34])) (congrArg strV HY6) <| cal (unq_ct ([34] ++ qin s (p + 1) ++ [34]) (by omega) (by omega)) [] [0] [_] rfl rfl rfl (by kernel_rfl) (impl_cons (impl_at 0 rfl) impl_nil) rfl ?_; rintro _ _ _ ⟨ux2, ub2, huy2, hun2, hux2, rfl, rfl, rfl⟩; refine ⟨trivial, ?_⟩
   refine mv (.tuple _) rfl <| xtr (.string _) rfl rfl <| xtr (.bool _) rfl rfl <| ags rfl <| agb rfl <| jsr <| mvp rfl <| mvi rfl <| nlc rfl <| fad rfl uy108 rfl ty3.sz <| stp 0 1 _ (p1 (.int .i64 ((qend s (p + 1) : Nat) : Int))) rfl rfl rfl rfl rfl rfl ty3 ⟨trivial, ?_⟩
   refine jt <| c_seq <| csr <| mvb rfl <| not_ rfl <| mvb rfl <| jsplit 45 rfl (fun h2 => ?_) (fun h2 => ?_)
   ·refine g_off rfl rfl rfl rfl <| g_off rfl rfl rfl rfl <| g_off rfl rfl rfl rfl <| g_off rfl rfl rfl rfl <| g_off rfl rfl rfl rfl <| pkt (.bool _) rfl rfl <| jt <| c_true rfl <| c_reg <| mvp rfl <| mvi rfl <| nlc rfl <| fad rfl uy108 rfl ty3.sz <| stp 0 2 _ (p1 (.int .i64 ((p + 1 : Nat) : Int))) rfl rfl rfl rfl rfl rfl ty3 ⟨trivial, ?_⟩
    refine jsr <| mvs rfl <| ags rfl <| jt <| c_ret ?_
    exact j_end (own0 := [[(b, .cells (cat [pt s, p1 (.int .i64 ((p : Nat) : Int)), p1 (.int .i64 (-1))]) 108)]]) (ro0 := [tDb64 11]) (.inl rfl) rfl (hr1 Tryz.results52 (rvt (v := (.string _)) rfl)) [0] [] [_] [] [] _ rfl rfl (by kernel_rfl) rfl impl_nil (.inr ⟨ux2, (p + 1), _, textR_bad (by assumption) (fun t ht hb => hun2 (notT (by assumption)) t (unq_iff.1 ht).1 (quote_iff.2 (unq_iff.1 ht).2.symm)), rfl, rfl, rfl⟩)
   ·refine g_on rfl rfl rfl <| mvs rfl <| g_on rfl rfl rfl <| mvi rfl <| g_on rfl rfl rfl <| mvi rfl <| g_on rfl rfl rfl <| cal (text_ct ux2 (lo : Int) (hi : Int) (by omega)) [] [0] [_] rfl rfl rfl (by kernel_rfl) impl_nil rfl ?_; rintro _ _ _ ⟨rfl, rfl, rfl⟩; refine ⟨trivial, ?_⟩
    refine g_on rfl rfl rfl <| not_ rfl <| pkf (.bool _) rfl rfl <| jt <| c_cond rfl (fun h3 => ?_) (fun h3 => ?_)
    ·refine c_reg <| mvp rfl <| mvi rfl <| nlc rfl <| fad rfl uy108 rfl ty3.sz <| stp 0 2 _ (p1 (.int .i64 ((p + 1 : Nat) : Int))) rfl rfl rfl rfl rfl rfl ty3 ⟨trivial, ?_⟩
     refine jsr <| mvs rfl <| ags rfl <| jt <| c_ret ?_
     exact j_end (own0 := [[(b, .cells (cat [pt s, p1 (.int .i64 ((p : Nat) : Int)), p1 (.int .i64 (-1))]) 108)]]) (ro0 := [tDb64 11]) (.inl rfl) rfl (hr1 Tryz.results52 (rvt (v := (.string _)) rfl)) [0] [] [_] [] [] _ rfl rfl (by kernel_rfl) rfl impl_nil (.inr ⟨ux2, (p + 1), _, textR_bad (by assumption) (fun t ht hb => by have e := ht.symm.trans (unq_iff.2 ⟨(huy2 (notF (by assumption))).1, (quote_iff.1 (huy2 (notF (by assumption))).2).symm⟩); cases e; exact said_no (notT (by assumption)) (huy2 (notF (by assumption))).1 ⟨by omega, by omega⟩), rfl, rfl, rfl⟩)
    ·refine c_skip <| e_then <| csr <| mvs rfl <| ags rfl <| jt <| c_ret ?_
     exact j_end (own0 := [[(b, .cells (cat [pt s, p1 (.int .i64 ((p : Nat) : Int)), p1 (.int .i64 (-1))]) 108)]]) (ro0 := [tDb64 11]) (.inl rfl) rfl (hr1 Tryz.results52 (rvt (v := (.string _)) rfl)) [0] [] [_] [] [] _ rfl rfl (by kernel_rfl) rfl impl_nil (.inl ⟨ux2, _, by rw [HY4]; exact textR_ok (by assumption) ⟨HY1, HY2, HY3⟩ (unq_iff.2 ⟨(huy2 (notF (by assumption))).1, (quote_iff.1 (huy2 (notF (by assumption))).2).symm⟩) ⟨by have := said_b (show saidB ux2 _ _ = true from notF (by assumption)); omega, by have := said_b (show saidB ux2 _ _ = true from notF (by assumption)); omega⟩, rfl, rfl, rfl⟩)
 ·refine ⟨trivial, ?_⟩
  refine agi rfl <| jt <| c_seq <| csr <| mvi rfl <| cmp true rfl rfl rfl <| jt <| c_true rfl <| csr <| ags rfl <| jt <| c_ret ?_
  exact j_end (own0 := [[(b, .cells (cat [pt s, p1 (.int .i64 ((p : Nat) : Int)), p1 (.int .i64 (-1))]) 108)]]) (ro0 := [tDb64 11]) (.inl rfl) rfl (hr1 Tryz.results52 (rvt (v := (.string _)) rfl)) [0] [] [_] [] [] _ rfl rfl (by kernel_rfl) rfl impl_nil (.inr ⟨[], p, p, textR_no (by assumption), rfl, rfl, rfl⟩)
end Go.Proofs.YtakbbpahfclgnaaGreatDoor
namespace Go.Proofs.YtakbbpahfclgnaaGreatDoor
open Go Go.Proofs Go.PW
open Go.PW.Enc (enc val)
def mleast (ms : List UInt32) : Nat := if ms.length = 0 then 0 else (List.getD ms (ms.length - 1) 0).toNat + 1
theorem mleast_0 {ms : List UInt32} (h : ms.length = 0) : mleast ms = 0 := if_pos h
theorem mleast_s {ms : List UInt32} (h : ¬ ms.length = 0) : mleast ms = (List.getD ms (ms.length - 1) 0).toNat + 1 := if_neg h
theorem mleast_app (ms : List UInt32) {n : Nat} (h : n ≤ 4294967295) : mleast (ms ++ [UInt32.ofNat n]) = n + 1 := by
  rw [mleast_s (by simp)]
  have e : List.getD (ms ++ [UInt32.ofNat n]) ((ms ++ [UInt32.ofNat n]).length - 1) 0 = UInt32.ofNat n := by simp [List.getD]
  rw [e, UInt32.toNat_ofNat']; omega
structure RK (s : Str) (p : Nat) (ms : List UInt32) (q : Nat) (bd : Int) : Prop where
  qle : bd = -1 → q ≤ s.length
  len : ms.length ≤ 101
  ways : (bd = -1 ∧ MK s p ms (mleast ms) q false) ∨ (0 ≤ bd ∧ marksR s 102 [] 0 p = .inl bd.toNat)
theorem RK.start {s : Str} {p : Nat} (hp : p ≤ s.length) : RK s p [] p (-1) := ⟨fun _ => hp, by simp, .inl ⟨rfl, MK.start hp⟩⟩
theorem RK.neg {s : Str} {p q : Nat} {ms : List UInt32} {bd : Int} (h : RK s p ms q bd) (hb : bd < 0) : bd = -1 := by rcases h.ways with h | h; exact h.1; omega
theorem RK.core {s : Str} {p q : Nat} {ms : List UInt32} {bd : Int} (h : RK s p ms q bd) (hb : bd = -1) : MK s p ms (mleast ms) q false := by rcases h.ways with h | h; exact h.2; omega
theorem RK.fail {s : Str} {p q a k : Nat} {ms : List UInt32} {x : UInt32} (h : RK s p ms q (-1)) (hg : ms.length = 0 ∨ q < s.length) (hn : numR s 0 4294967295 q = .inl k) (hk : k ≤ s.length) : RK s p (ms ++ [x]) a (k : Int) := by
  have hm := h.core rfl
  have := ((hm.good rfl).1).1
  exact ⟨fun h => by omega, by simp; omega, .inr ⟨by omega, (hm.fail (x := x) (l := 0) hg (numR_least_l hn) hk).bad rfl⟩⟩
theorem RK.full {s : Str} {p q a k n : Nat} {ms : List UInt32} {x : UInt32} (h : RK s p ms q (-1)) (hg : ms.length = 0 ∨ q < s.length) (hn : numR s 0 4294967295 q = .inr (n, k)) (hm : 100 ≤ ms.length) : RK s p (ms ++ [x]) a ((q + 1 : Nat) : Int) := by
  have hm' := h.core rfl
  have hl := ((hm'.good rfl).1).1
  have hx := numR_next hn
  refine ⟨fun h => by omega, by simp; omega, .inr ⟨by omega, ?_⟩⟩
  have hr := numR_least (l := mleast ms) hn
  by_cases hle : mleast ms ≤ n
  · rw [if_pos hle] at hr; exact (hm'.full (x := x) (l := 0) hg hr (by omega) (by omega)).bad rfl
  · rw [if_neg hle] at hr; exact (hm'.fail (x := x) (l := 0) hg hr (by omega)).bad rfl
theorem RK.low {s : Str} {p q a k n : Nat} {ms : List UInt32} {x : UInt32} (h : RK s p ms q (-1)) (hg : ms.length = 0 ∨ q < s.length) (hn : numR s 0 4294967295 q = .inr (n, k)) (hm : 0 < ms.length) (hl : n ≤ (List.getD ms (ms.length - 1) 0).toNat) : RK s p (ms ++ [x]) a ((q + 1 : Nat) : Int) := by
  have hm' := h.core rfl
  have hl' := ((hm'.good rfl).1).1
  have hx := numR_next hn
  have hr := numR_least (l := mleast ms) hn
  rw [if_neg (by rw [mleast_s (by omega)]; omega)] at hr
  exact ⟨fun h => by omega, by simp; omega, .inr ⟨by omega, (hm'.fail (x := x) (l := 0) hg hr (by omega)).bad rfl⟩⟩
theorem RK.go {s : Str} {p q k n : Nat} {ms : List UInt32} (h : RK s p ms q (-1)) (hg : ms.length = 0 ∨ q < s.length) (hn : numR s 0 4294967295 q = .inr (n, k)) (hm : ms.length < 100) (hl : ms.length = 0 ∨ (List.getD ms (ms.length - 1) 0).toNat < n) : RK s p (ms ++ [UInt32.ofNat n]) k (-1) := by
  have hm' := h.core rfl
  have hx := numR_next hn
  have hr := numR_least (l := mleast ms) hn
  rw [if_pos (by by_cases h0 : ms.length = 0; rw [mleast_0 h0]; omega; rw [mleast_s h0]; omega)] at hr
  refine ⟨fun _ => by omega, by simp; omega, .inl ⟨rfl, ?_⟩⟩
  rw [mleast_app ms (by omega)]
  exact hm'.go hg hr (by omega) (by omega) (by omega)
theorem RK.bad {s : Str} {p q : Nat} {ms : List UInt32} {bd : Int} (h : RK s p ms q bd) (hb : ¬ bd < 0) : ∃ k : Nat, bd = k ∧ marksR s 102 [] 0 p = .inl k := by
  rcases h.ways with h | h
  · omega
  · exact ⟨bd.toNat, by omega, h.2⟩
theorem RK.done {s : Str} {p q : Nat} {ms : List UInt32} (h : RK s p ms q (-1)) (hg : ¬(ms.length = 0 ∨ q < s.length)) : marksR s 102 [] 0 p = .inr (ms, q) := ((h.core rfl).good rfl).2.2 hg
theorem numR_bad_le {s : Str} {l m q k : Nat} (h : numR s l m q = .inl k) (hq : q ≤ s.length) : k ≤ s.length := by
  unfold numR at h
  by_cases hb : blk s q = true
  · rw [if_pos hb] at h
    have hp := blk_lt hb
    cases hn : pnum 10 (word s (q + 1)) with
    | none => rw [hn] at h; cases h; exact hp
    | some n =>
      rw [hn] at h; simp only at h
      by_cases h2 : l ≤ n ∧ n ≤ m
      · rw [if_pos h2] at h; cases h
      · rw [if_neg h2] at h; cases h; exact hp
  · rw [if_neg hb] at h; cases h; exact hq
theorem u32_low {n : UInt64} (hn : n.toNat ≤ 4294967295) : (UInt32.ofNat n.toNat).toNat = n.toNat := by rw [UInt32.toNat_ofNat']; omega
theorem rk_less {ms ms' : List UInt32} {b : Int} (h : ms.length ≤ 100) (hl : ms'.length = ms.length + 1) : (if 0 ≤ b then 0 else 102 - ms'.length) < (if (0 : Int) ≤ -1 then 0 else 102 - ms.length) := by
  rw [if_neg (show ¬ (0 : Int) ≤ -1 by omega)]; split <;> omega
theorem rdmarks_ct (b : Nat) (s : Str) (p : Nat) (hs : s.length ≤ 140737488351232) (hp : p ≤ s.length) : Ct Tryz.prog 53 [.pointer (some ⟨b, 0, none⟩)] [[(b, .cells (cat [pt s, p1 (.int .i64 ((p : Nat) : Int)), p1 (.int .i64 (-1))]) 108)]] [tPow10 9] (fun v o r => (∃ (o' : Ow) (ms : List UInt32) (q : Nat), marksR s 102 [] 0 p = .inr (ms, q) ∧ (q ≤ s.length ∧ ms.length ≤ 101) ∧ o'.ok ms ∧ v = .slice o'.adr ms.length o'.cap ∧ o = [[(b, .cells (cat [pt s, p1 (.int .i64 ((q : Nat) : Int)), p1 (.int .i64 (-1))]) 108)], o'.seg ms 153] ∧ r = []) ∨ (∃ (o' : Ow) (ms : List UInt32) (q a : Nat), marksR s 102 [] 0 p = .inl q ∧ ms.length ≤ 101 ∧ o'.ok ms ∧ v = .slice o'.adr ms.length o'.cap ∧ o = [[(b, .cells (cat [pt s, p1 (.int .i64 ((a : Nat) : Int)), p1 (.int .i64 ((q : Nat) : Int))]) 108)], o'.seg ms 153] ∧ r = [])) := by
 refine ct_enter Tryz.func53 rfl Tryz.ntmps53 (by kernel_rfl) rfl fun w0 => ?_
 refine csr <| agl rfl <| jsr <| bsl (α := UInt32) ([]) uy70 ty153.sz rfl (by decide) z153 rfl fun b6 => ⟨trivial, ?_⟩
 refine agl rfl <| jt <| c_seq <| c_block <| c_loop (σ := List UInt32 × Ow × Nat × Int) (fun (ms, o, q, bd) => o.ok ms ∧ RK s p ms q bd) (fun (ms, o, q, bd) => if 0 ≤ bd then 0 else 102 - ms.length) (fun (ms, o, q, bd) => [(3, .slice o.adr ms.length o.cap)]) (fun (ms, o, q, bd) => [[(b, .cells (cat [pt s, p1 (.int .i64 ((q : Nat) : Int)), p1 (.int .i64 bd)]) 108)], o.seg ms 153]) (fun (ms, o, q, bd) => [tPow10 9]) [3, 4, 5, 7, 8, 9, 10, 11, 12, 13, 14, 15, 16, 17, 18, 19, 20, 21, 22, 23, 24, 25, 26, 27, 28, 29, 30, 31, 32, 33, 34, 35, 36, 37, 38, 39, 40, 41, 42, 43, 44, 45, 46, 47, 48, 49, 50, 51, 52, 53, 54, 55, 56, 57, 58, 59, 60, 61, 62, 63, 64, 65, 66, 67, 68, 69, 70] ([], ⟨false, b6, 0, []⟩, p, -1) (⟨⟨by simp, fun _ => rfl, Nat.le_refl _⟩, RK.start hp⟩) ⟨rfl, trivial⟩ rfl rfl ?_
 rintro ⟨ms, o, q, bd⟩ g1 hI1
 try dsimp only at hI1 ⊢
 have HMS := hI1.2.len
 refine c_seq <| c_seq <| c_dr [_, _, _] [] [(0, 0), (1, 0), (2, 0), (3, 0), (4, 0), (5, 0), (6, 0), (7, 0), (8, 0), (9, 0), (10, 0), (11, 0), (12, 0), (13, 0), (14, 0), (15, 0), (16, 0), (17, 0), (18, 0), (19, 0), (20, 0), (21, 0)] follows (by kernel_rfl) calm_body (keepS [0, 1, 2] rfl) <| mvp rfl <| nlc rfl <| fad rfl uy108 rfl ty3.sz <| ldp 0 2 _ rfl rfl rfl rfl ty3 <| cmp _ rfl rfl rfl <| mvb rfl <| jsplit 12 rfl (fun h1 => ?_) (fun h1 => ?_)
 ·replace h1 := of_decide_eq_true h1
  refine g_on rfl rfl rfl <| mvl rfl <| g_on rfl rfl rfl <| lenS rfl uy70 <| g_on rfl rfl rfl <| cmp _ rfl rfl rfl <| g_on rfl rfl rfl <| mvb rfl <| jsplit 16 rfl (fun h2 => ?_) (fun h2 => ?_)
  ·replace h2 := of_decide_eq_true h2
   refine g_off rfl rfl rfl rfl <| g_off rfl rfl rfl rfl <| g_off rfl rfl rfl rfl <| g_off rfl rfl rfl rfl <| g_off rfl rfl rfl rfl <| g_off rfl rfl rfl rfl <| g_off rfl rfl rfl rfl <| g_off rfl rfl rfl rfl <| g_off rfl rfl rfl rfl <| g_off rfl rfl rfl rfl <| g_on rfl rfl rfl <| pkt (.bool _) rfl rfl <| pkt (.bool _) rfl rfl <| jt <| c_true rfl <| c_skip <| e_then <| c_block <| c_seq ?_
   obtain rfl : bd = -1 := hI1.2.neg (by assumption)
   have HQ := hI1.2.qle rfl
   refine c_reg <| mvp rfl <| nlc rfl <| fad rfl uy108 rfl ty3.sz <| ldp 0 1 _ rfl rfl rfl rfl ty3 <| addi rfl rfl rfl (by omega) <| agi rfl <| jsr <| mvp rfl <| cal (rdnum_ct b s q (by omega) (by omega) (4294967295 : UInt64) (by decide)) [0] [1] [_] rfl rfl rfl (by kernel_rfl) (impl_cons (impl_at 0 rfl) impl_nil) rfl ?_; rintro _ _ _ (⟨nn1, nq1, hnm1, rfl, rfl, rfl⟩ | ⟨nn1, nq1, na1, hnm1, rfl, rfl, rfl⟩)
   ·have hnm1b := numR_next hnm1; refine ⟨trivial, ?_⟩
    refine agi rfl <| jt <| c_seq <| c_seq ?_
    have HU32 := u32_low (n := nn1) hnm1b.2.2.2
    refine c_reg <| mvp rfl <| nlc rfl <| fad rfl uy108 rfl ty3.sz <| ldp 1 2 _ rfl rfl rfl rfl ty3 <| cmp true rfl rfl rfl <| mvb rfl <| g_on rfl rfl rfl <| mvl rfl <| g_on rfl rfl rfl <| lenS rfl uy70 <| g_on rfl rfl rfl <| cmp _ rfl rfl rfl <| g_on rfl rfl rfl <| mvb rfl <| jsplit 45 rfl (fun h3 => ?_) (fun h3 => ?_)
    ·replace h3 := of_decide_eq_true h3
     refine g_off rfl rfl rfl rfl <| g_off rfl rfl rfl rfl <| g_off rfl rfl rfl rfl <| g_off rfl rfl rfl rfl <| g_und rfl rfl rfl <| g_und rfl rfl rfl <| g_und rfl rfl rfl <| g_und rfl rfl rfl <| g_und rfl rfl rfl <| g_und rfl rfl rfl <| g_und rfl rfl rfl <| g_und rfl rfl rfl <| g_und rfl rfl rfl <| g_off rfl rfl rfl rfl <| g_on rfl rfl rfl <| pkt (.bool _) rfl rfl <| pkt (.bool _) rfl rfl <| jt <| c_true rfl <| c_reg <| mvp rfl <| mvi rfl <| nlc rfl <| fad rfl uy108 rfl ty3.sz <| stp 1 2 _ (p1 (.int .i64 (((q : Nat) : Int) + 1))) rfl rfl rfl rfl rfl rfl ty3 ⟨trivial, ?_⟩
     refine jr <| mvl rfl <| mvi rfl <| cvNU32 (n := nn1.toNat) rfl uy72 uy153 <| bsl (α := UInt32) ([(UInt32.ofNat nn1.toNat)]) uy70 ty153.sz rfl (by decide) z153 rfl fun b69 => ⟨trivial, ?_⟩
     refine app 0 o ms ([(UInt32.ofNat nn1.toNat)] : List UInt32) hI1.1 rfl ⟨rfl, rfl, rfl⟩ rfl rfl (gives_own (ys := ([(UInt32.ofNat nn1.toNat)] : List UInt32)) (pre := []) (post := []) 2 rfl (by simp) rfl) uy70 uy70 (.inl ⟨_, rfl⟩) ty153.sz by153 z153 rfl (by simp; omega) rfl fun o70_2 hk70_2 => ⟨trivial, ?_⟩
     refine agl rfl <| jn <| e_in <| e_keep [1, 0] [2] [_, _] rfl (by kernel_rfl) ?_
     exact e_loop ((ms ++ ([(UInt32.ofNat nn1.toNat)] : List UInt32)), o70_2, nq1, (((q + 1) : Nat) : Int)) (⟨hk70_2, by first | exact RK.full hI1.2 (by omega) hnm1 (by omega) | exact RK.low hI1.2 (by omega) hnm1 (by omega) (by omega)⟩) (rk_less (by have := (((hI1.2.core rfl).good rfl).1).1; omega) (by simp)) (⟨rfl, trivial⟩) rfl rfl rfl
    ·replace h3 := of_decide_eq_false h3
     refine g_on rfl rfl rfl <| mvl rfl <| g_on rfl rfl rfl <| lenS rfl uy70 <| g_on rfl rfl rfl <| cmp _ rfl rfl rfl <| g_on rfl rfl rfl <| mvb rfl <| jsplit 49 rfl (fun h4 => ?_) (fun h4 => ?_)
     ·replace h4 := of_decide_eq_true h4
      refine g_on rfl rfl rfl <| mvi rfl <| g_on rfl rfl rfl <| cvNU32 (n := nn1.toNat) rfl uy72 uy153 <| g_on rfl rfl rfl <| mvl rfl <| g_on rfl rfl rfl <| mvl rfl <| g_on rfl rfl rfl <| lenS rfl uy70 <| g_on rfl rfl rfl <| subi rfl rfl rfl (by omega) <| g_on rfl rfl rfl <| ixs ((o).vs) ms (ms.length - 1) (Ow.vs_ok hI1.1) rfl rfl rfl uy70 ty153.sz (by omega) (by omega) <| g_on rfl rfl rfl <| ldsoG 0 (List.getD ms (ms.length - 1) 0) hI1.1 rfl rfl rfl rfl (getD_some (by first | omega | (simp; done) | (simp; omega) | (simp at *; omega))) ty153 <| g_on rfl rfl rfl <| cmp _ rfl rfl rfl <| g_on rfl rfl rfl <| pkt (.bool _) rfl rfl <| g_on rfl rfl rfl <| pkf (.bool _) rfl rfl <| pkt (.bool _) rfl rfl <| jt <| c_cond rfl (fun h5 => ?_) (fun h5 => ?_)
      ·replace h5 := of_decide_eq_true h5
       refine c_reg <| mvp rfl <| mvi rfl <| nlc rfl <| fad rfl uy108 rfl ty3.sz <| stp 1 2 _ (p1 (.int .i64 (((q : Nat) : Int) + 1))) rfl rfl rfl rfl rfl rfl ty3 ⟨trivial, ?_⟩
       refine jr <| mvl rfl <| mvi rfl <| cvNU32 (n := nn1.toNat) rfl uy72 uy153 <| bsl (α := UInt32) ([(UInt32.ofNat nn1.toNat)]) uy70 ty153.sz rfl (by decide) z153 rfl fun b69 => ⟨trivial, ?_⟩
       refine app 0 o ms ([(UInt32.ofNat nn1.toNat)] : List UInt32) hI1.1 rfl ⟨rfl, rfl, rfl⟩ rfl rfl (gives_own (ys := ([(UInt32.ofNat nn1.toNat)] : List UInt32)) (pre := []) (post := []) 2 rfl (by simp) rfl) uy70 uy70 (.inl ⟨_, rfl⟩) ty153.sz by153 z153 rfl (by simp; omega) rfl fun o70_3 hk70_3 => ⟨trivial, ?_⟩
       refine agl rfl <| jn <| e_in <| e_keep [1, 0] [2] [_, _] rfl (by kernel_rfl) ?_
       exact e_loop ((ms ++ ([(UInt32.ofNat nn1.toNat)] : List UInt32)), o70_3, nq1, (((q + 1) : Nat) : Int)) (⟨hk70_3, by first | exact RK.full hI1.2 (by omega) hnm1 (by omega) | exact RK.low hI1.2 (by omega) hnm1 (by omega) (by omega)⟩) (rk_less (by have := (((hI1.2.core rfl).good rfl).1).1; omega) (by simp)) (⟨rfl, trivial⟩) rfl rfl rfl
      ·replace h5 := of_decide_eq_false h5
       refine c_skip <| e_then <| c_reg <| mvl rfl <| mvi rfl <| cvNU32 (n := nn1.toNat) rfl uy72 uy153 <| bsl (α := UInt32) ([(UInt32.ofNat nn1.toNat)]) uy70 ty153.sz rfl (by decide) z153 rfl fun b69 => ⟨trivial, ?_⟩
       refine app 0 o ms ([(UInt32.ofNat nn1.toNat)] : List UInt32) hI1.1 rfl ⟨rfl, rfl, rfl⟩ rfl rfl (gives_own (ys := ([(UInt32.ofNat nn1.toNat)] : List UInt32)) (pre := []) (post := []) 2 rfl (by simp) rfl) uy70 uy70 (.inl ⟨_, rfl⟩) ty153.sz by153 z153 rfl (by simp; omega) rfl fun o70_4 hk70_4 => ⟨trivial, ?_⟩
       refine agl rfl <| jn <| e_in <| e_keep [1, 0] [2] [_, _] rfl (by kernel_rfl) ?_
       exact e_loop ((ms ++ ([(UInt32.ofNat nn1.toNat)] : List UInt32)), o70_4, nq1, -1) (⟨hk70_4, RK.go hI1.2 (by omega) hnm1 (by omega) (by omega)⟩) (rk_less (by have := (((hI1.2.core rfl).good rfl).1).1; omega) (by simp)) (⟨rfl, trivial⟩) rfl rfl rfl
     ·replace h4 := of_decide_eq_false h4
      refine g_off rfl rfl rfl rfl <| g_off rfl rfl rfl rfl <| g_off rfl rfl rfl rfl <| g_off rfl rfl rfl rfl <| g_off rfl rfl rfl rfl <| g_off rfl rfl rfl rfl <| g_off rfl rfl rfl rfl <| g_off rfl rfl rfl rfl <| g_off rfl rfl rfl rfl <| g_on rfl rfl rfl <| pkf (.bool _) rfl rfl <| g_on rfl rfl rfl <| pkf (.bool _) rfl rfl <| pkt (.bool _) rfl rfl <| jt <| c_false rfl <| c_skip <| e_then <| c_reg <| mvl rfl <| mvi rfl <| cvNU32 (n := nn1.toNat) rfl uy72 uy153 <| bsl (α := UInt32) ([(UInt32.ofNat nn1.toNat)]) uy70 ty153.sz rfl (by decide) z153 rfl fun b69 => ⟨trivial, ?_⟩
      refine app 0 o ms ([(UInt32.ofNat nn1.toNat)] : List UInt32) hI1.1 rfl ⟨rfl, rfl, rfl⟩ rfl rfl (gives_own (ys := ([(UInt32.ofNat nn1.toNat)] : List UInt32)) (pre := []) (post := []) 2 rfl (by simp) rfl) uy70 uy70 (.inl ⟨_, rfl⟩) ty153.sz by153 z153 rfl (by simp; omega) rfl fun o70_5 hk70_5 => ⟨trivial, ?_⟩
      refine agl rfl <| jn <| e_in <| e_keep [1, 0] [2] [_, _] rfl (by kernel_rfl) ?_
      exact e_loop ((ms ++ ([(UInt32.ofNat nn1.toNat)] : List UInt32)), o70_5, nq1, -1) (⟨hk70_5, RK.go hI1.2 (by omega) hnm1 (by omega) (by omega)⟩) (rk_less (by have := (((hI1.2.core rfl).good rfl).1).1; omega) (by simp)) (⟨rfl, trivial⟩) rfl rfl rfl
   ·refine ⟨trivial, ?_⟩
    refine agi rfl <| jt <| c_seq <| csr <| mvp rfl <| nlc rfl <| fad rfl uy108 rfl ty3.sz <| ldp 1 2 _ rfl rfl rfl rfl ty3 <| cmp false rfl rfl (by simp only [cmpV]; exact congrArg some (decide_eq_false (by omega))) <| mvb rfl <| g_off rfl rfl rfl rfl <| g_off rfl rfl rfl rfl <| g_off rfl rfl rfl rfl <| g_off rfl rfl rfl rfl <| g_und rfl rfl rfl <| g_und rfl rfl rfl <| g_und rfl rfl rfl <| g_und rfl rfl rfl <| g_und rfl rfl rfl <| g_und rfl rfl rfl <| g_und rfl rfl rfl <| g_und rfl rfl rfl <| g_und rfl rfl rfl <| g_und rfl rfl rfl <| g_und rfl rfl rfl <| g_und rfl rfl rfl <| g_und rfl rfl rfl <| g_und rfl rfl rfl <| g_off rfl rfl rfl rfl <| pkf (.bool _) rfl rfl <| jt <| c_false rfl <| c_skip <| e_then <| c_reg <| mvl rfl <| mvi rfl <| cvNU32 (n := nn1.toNat) rfl uy72 uy153 <| bsl (α := UInt32) ([(UInt32.ofNat nn1.toNat)]) uy70 ty153.sz rfl (by decide) z153 rfl fun b69 => ⟨trivial, ?_⟩
    refine app 0 o ms ([(UInt32.ofNat nn1.toNat)] : List UInt32) hI1.1 rfl ⟨rfl, rfl, rfl⟩ rfl rfl (gives_own (ys := ([(UInt32.ofNat nn1.toNat)] : List UInt32)) (pre := []) (post := []) 2 rfl (by simp) rfl) uy70 uy70 (.inl ⟨_, rfl⟩) ty153.sz by153 z153 rfl (by simp; omega) rfl fun o70_6 hk70_6 => ⟨trivial, ?_⟩
    refine agl rfl <| jn <| e_in <| e_keep [1, 0] [2] [_, _] rfl (by kernel_rfl) ?_
    exact e_loop ((ms ++ ([(UInt32.ofNat nn1.toNat)] : List UInt32)), o70_6, na1, ((nq1 : Nat) : Int)) (⟨hk70_6, RK.fail hI1.2 (by omega) hnm1 (numR_bad_le hnm1 HQ)⟩) (rk_less (by have := (((hI1.2.core rfl).good rfl).1).1; omega) (by simp)) (⟨rfl, trivial⟩) rfl rfl rfl
  ·replace h2 := of_decide_eq_false h2
   refine g_on rfl rfl rfl <| mvp rfl <| g_on rfl rfl rfl <| nlc rfl <| g_on rfl rfl rfl <| fad rfl uy108 rfl ty3.sz <| g_on rfl rfl rfl <| ldp 0 1 _ rfl rfl rfl rfl ty3 <| g_on rfl rfl rfl <| mvp rfl <| g_on rfl rfl rfl <| nlc rfl <| g_on rfl rfl rfl <| fad rfl uy108 rfl ty9.sz <| g_on rfl rfl rfl <| ldp 0 0 _ rfl rfl rfl rfl ty9 <| g_on rfl rfl rfl <| lenT (s := s) rfl uy9 <| g_on rfl rfl rfl <| cmp _ rfl rfl rfl <| g_on rfl rfl rfl <| pkf (.bool _) rfl rfl <| pkt (.bool _) rfl rfl <| jt <| c_cond rfl (fun h6 => ?_) (fun h6 => ?_)
   ·replace h6 := of_decide_eq_true h6
    refine c_skip <| e_then <| c_block <| c_seq ?_
    obtain rfl : bd = -1 := hI1.2.neg (by assumption)
    have HQ := hI1.2.qle rfl
    refine c_reg <| mvp rfl <| nlc rfl <| fad rfl uy108 rfl ty3.sz <| ldp 0 1 _ rfl rfl rfl rfl ty3 <| addi rfl rfl rfl (by omega) <| agi rfl <| jsr <| mvp rfl <| cal (rdnum_ct b s q (by omega) (by omega) (4294967295 : UInt64) (by decide)) [0] [1] [_] rfl rfl rfl (by kernel_rfl) (impl_cons (impl_at 0 rfl) impl_nil) rfl ?_; rintro _ _ _ (⟨nn7, nq7, hnm7, rfl, rfl, rfl⟩ | ⟨nn7, nq7, na7, hnm7, rfl, rfl, rfl⟩)
    ·have hnm7b := numR_next hnm7; refine ⟨trivial, ?_⟩
     refine agi rfl <| jt <| c_seq <| c_seq ?_
     have HU32 := u32_low (n := nn7) hnm7b.2.2.2
     refine c_reg <| mvp rfl <| nlc rfl <| fad rfl uy108 rfl ty3.sz <| ldp 1 2 _ rfl rfl rfl rfl ty3 <| cmp true rfl rfl rfl <| mvb rfl <| g_on rfl rfl rfl <| mvl rfl <| g_on rfl rfl rfl <| lenS rfl uy70 <| g_on rfl rfl rfl <| cmp _ rfl rfl rfl <| g_on rfl rfl rfl <| mvb rfl <| jsplit 45 rfl (fun h7 => ?_) (fun h7 => ?_)
     ·replace h7 := of_decide_eq_true h7
      refine g_off rfl rfl rfl rfl <| g_off rfl rfl rfl rfl <| g_off rfl rfl rfl rfl <| g_off rfl rfl rfl rfl <| g_und rfl rfl rfl <| g_und rfl rfl rfl <| g_und rfl rfl rfl <| g_und rfl rfl rfl <| g_und rfl rfl rfl <| g_und rfl rfl rfl <| g_und rfl rfl rfl <| g_und rfl rfl rfl <| g_und rfl rfl rfl <| g_off rfl rfl rfl rfl <| g_on rfl rfl rfl <| pkt (.bool _) rfl rfl <| pkt (.bool _) rfl rfl <| jt <| c_true rfl <| c_reg <| mvp rfl <| mvi rfl <| nlc rfl <| fad rfl uy108 rfl ty3.sz <| stp 1 2 _ (p1 (.int .i64 (((q : Nat) : Int) + 1))) rfl rfl rfl rfl rfl rfl ty3 ⟨trivial, ?_⟩
      refine jr <| mvl rfl <| mvi rfl <| cvNU32 (n := nn7.toNat) rfl uy72 uy153 <| bsl (α := UInt32) ([(UInt32.ofNat nn7.toNat)]) uy70 ty153.sz rfl (by decide) z153 rfl fun b69 => ⟨trivial, ?_⟩
      refine app 0 o ms ([(UInt32.ofNat nn7.toNat)] : List UInt32) hI1.1 rfl ⟨rfl, rfl, rfl⟩ rfl rfl (gives_own (ys := ([(UInt32.ofNat nn7.toNat)] : List UInt32)) (pre := []) (post := []) 2 rfl (by simp) rfl) uy70 uy70 (.inl ⟨_, rfl⟩) ty153.sz by153 z153 rfl (by simp; omega) rfl fun o70_8 hk70_8 => ⟨trivial, ?_⟩
      refine agl rfl <| jn <| e_in <| e_keep [1, 0] [2] [_, _] rfl (by kernel_rfl) ?_
      exact e_loop ((ms ++ ([(UInt32.ofNat nn7.toNat)] : List UInt32)), o70_8, nq7, (((q + 1) : Nat) : Int)) (⟨hk70_8, by first | exact RK.full hI1.2 (by omega) hnm7 (by omega) | exact RK.low hI1.2 (by omega) hnm7 (by omega) (by omega)⟩) (rk_less (by have := (((hI1.2.core rfl).good rfl).1).1; omega) (by simp)) (⟨rfl, trivial⟩) rfl rfl rfl
     ·replace h7 := of_decide_eq_false h7
      refine g_on rfl rfl rfl <| mvl rfl <| g_on rfl rfl rfl <| lenS rfl uy70 <| g_on rfl rfl rfl <| cmp _ rfl rfl rfl <| g_on rfl rfl rfl <| mvb rfl <| jsplit 49 rfl (fun h8 => ?_) (fun h8 => ?_)
      ·replace h8 := of_decide_eq_true h8
       refine g_on rfl rfl rfl <| mvi rfl <| g_on rfl rfl rfl <| cvNU32 (n := nn7.toNat) rfl uy72 uy153 <| g_on rfl rfl rfl <| mvl rfl <| g_on rfl rfl rfl <| mvl rfl <| g_on rfl rfl rfl <| lenS rfl uy70 <| g_on rfl rfl rfl <| subi rfl rfl rfl (by omega) <| g_on rfl rfl rfl <| ixs ((o).vs) ms (ms.length - 1) (Ow.vs_ok hI1.1) rfl rfl rfl uy70 ty153.sz (by omega) (by omega) <| g_on rfl rfl rfl <| ldsoG 0 (List.getD ms (ms.length - 1) 0) hI1.1 rfl rfl rfl rfl (getD_some (by first | omega | (simp; done) | (simp; omega) | (simp at *; omega))) ty153 <| g_on rfl rfl rfl <| cmp _ rfl rfl rfl <| g_on rfl rfl rfl <| pkt (.bool _) rfl rfl <| g_on rfl rfl rfl <| pkf (.bool _) rfl rfl <| pkt (.bool _) rfl rfl <| jt <| c_cond rfl (fun h9 => ?_) (fun h9 => ?_)
       ·replace h9 := of_decide_eq_true h9
        refine c_reg <| mvp rfl <| mvi rfl <| nlc rfl <| fad rfl uy108 rfl ty3.sz <| stp 1 2 _ (p1 (.int .i64 (((q : Nat) : Int) + 1))) rfl rfl rfl rfl rfl rfl ty3 ⟨trivial, ?_⟩
        refine jr <| mvl rfl <| mvi rfl <| cvNU32 (n := nn7.toNat) rfl uy72 uy153 <| bsl (α := UInt32) ([(UInt32.ofNat nn7.toNat)]) uy70 ty153.sz rfl (by decide) z153 rfl fun b69 => ⟨trivial, ?_⟩
        refine app 0 o ms ([(UInt32.ofNat nn7.toNat)] : List UInt32) hI1.1 rfl ⟨rfl, rfl, rfl⟩ rfl rfl (gives_own (ys := ([(UInt32.ofNat nn7.toNat)] : List UInt32)) (pre := []) (post := []) 2 rfl (by simp) rfl) uy70 uy70 (.inl ⟨_, rfl⟩) ty153.sz by153 z153 rfl (by simp; omega) rfl fun o70_9 hk70_9 => ⟨trivial, ?_⟩
        refine agl rfl <| jn <| e_in <| e_keep [1, 0] [2] [_, _] rfl (by kernel_rfl) ?_
        exact e_loop ((ms ++ ([(UInt32.ofNat nn7.toNat)] : List UInt32)), o70_9, nq7, (((q + 1) : Nat) : Int)) (⟨hk70_9, by first | exact RK.full hI1.2 (by omega) hnm7 (by omega) | exact RK.low hI1.2 (by omega) hnm7 (by omega) (by omega)⟩) (rk_less (by have := (((hI1.2.core rfl).good rfl).1).1; omega) (by simp)) (⟨rfl, trivial⟩) rfl rfl rfl
       ·replace h9 := of_decide_eq_false h9
        refine c_skip <| e_then <| c_reg <| mvl rfl <| mvi rfl <| cvNU32 (n := nn7.toNat) rfl uy72 uy153 <| bsl (α := UInt32) ([(UInt32.ofNat nn7.toNat)]) uy70 ty153.sz rfl (by decide) z153 rfl fun b69 => ⟨trivial, ?_⟩
        refine app 0 o ms ([(UInt32.ofNat nn7.toNat)] : List UInt32) hI1.1 rfl ⟨rfl, rfl, rfl⟩ rfl rfl (gives_own (ys := ([(UInt32.ofNat nn7.toNat)] : List UInt32)) (pre := []) (post := []) 2 rfl (by simp) rfl) uy70 uy70 (.inl ⟨_, rfl⟩) ty153.sz by153 z153 rfl (by simp; omega) rfl fun o70_10 hk70_10 => ⟨trivial, ?_⟩
        refine agl rfl <| jn <| e_in <| e_keep [1, 0] [2] [_, _] rfl (by kernel_rfl) ?_
        exact e_loop ((ms ++ ([(UInt32.ofNat nn7.toNat)] : List UInt32)), o70_10, nq7, -1) (⟨hk70_10, RK.go hI1.2 (by omega) hnm7 (by omega) (by omega)⟩) (rk_less (by have := (((hI1.2.core rfl).good rfl).1).1; omega) (by simp)) (⟨rfl, trivial⟩) rfl rfl rfl
      ·replace h8 := of_decide_eq_false h8
       refine g_off rfl rfl rfl rfl <| g_off rfl rfl rfl rfl <| g_off rfl rfl rfl rfl <| g_off rfl rfl rfl rfl <| g_off rfl rfl rfl rfl <| g_off rfl rfl rfl rfl <| g_off rfl rfl rfl rfl <| g_off rfl rfl rfl rfl <| g_off rfl rfl rfl rfl <| g_on rfl rfl rfl <| pkf (.bool _) rfl rfl <| g_on rfl rfl rfl <| pkf (.bool _) rfl rfl <| pkt (.bool _) rfl rfl <| jt <| c_false rfl <| c_skip <| e_then <| c_reg <| mvl rfl <| mvi rfl <| cvNU32 (n := nn7.toNat) rfl uy72 uy153 <| bsl (α := UInt32) ([(UInt32.ofNat nn7.toNat)]) uy70 ty153.sz rfl (by decide) z153 rfl fun b69 => ⟨trivial, ?_⟩
       refine app 0 o ms ([(UInt32.ofNat nn7.toNat)] : List UInt32) hI1.1 rfl ⟨rfl, rfl, rfl⟩ rfl rfl (gives_own (ys := ([(UInt32.ofNat nn7.toNat)] : List UInt32)) (pre := []) (post := []) 2 rfl (by simp) rfl) uy70 uy70 (.inl ⟨_, rfl⟩) ty153.sz by153 z153 rfl (by simp; omega) rfl fun o70_11 hk70_11 => ⟨trivial, ?_⟩
       refine agl rfl <| jn <| e_in <| e_keep [1, 0] [2] [_, _] rfl (by kernel_rfl) ?_
       exact e_loop ((ms ++ ([(UInt32.ofNat nn7.toNat)] : List UInt32)), o70_11, nq7, -1) (⟨hk70_11, RK.go hI1.2 (by omega) hnm7 (by omega) (by omega)⟩) (rk_less (by have := (((hI1.2.core rfl).good rfl).1).1; omega) (by simp)) (⟨rfl, trivial⟩) rfl rfl rfl
    ·refine ⟨trivial, ?_⟩
     refine agi rfl <| jt <| c_seq <| csr <| mvp rfl <| nlc rfl <| fad rfl uy108 rfl ty3.sz <| ldp 1 2 _ rfl rfl rfl rfl ty3 <| cmp false rfl rfl (by simp only [cmpV]; exact congrArg some (decide_eq_false (by omega))) <| mvb rfl <| g_off rfl rfl rfl rfl <| g_off rfl rfl rfl rfl <| g_off rfl rfl rfl rfl <| g_off rfl rfl rfl rfl <| g_und rfl rfl rfl <| g_und rfl rfl rfl <| g_und rfl rfl rfl <| g_und rfl rfl rfl <| g_und rfl rfl rfl <| g_und rfl rfl rfl <| g_und rfl rfl rfl <| g_und rfl rfl rfl <| g_und rfl rfl rfl <| g_und rfl rfl rfl <| g_und rfl rfl rfl <| g_und rfl rfl rfl <| g_und rfl rfl rfl <| g_und rfl rfl rfl <| g_off rfl rfl rfl rfl <| pkf (.bool _) rfl rfl <| jt <| c_false rfl <| c_skip <| e_then <| c_reg <| mvl rfl <| mvi rfl <| cvNU32 (n := nn7.toNat) rfl uy72 uy153 <| bsl (α := UInt32) ([(UInt32.ofNat nn7.toNat)]) uy70 ty153.sz rfl (by decide) z153 rfl fun b69 => ⟨trivial, ?_⟩
     refine app 0 o ms ([(UInt32.ofNat nn7.toNat)] : List UInt32) hI1.1 rfl ⟨rfl, rfl, rfl⟩ rfl rfl (gives_own (ys := ([(UInt32.ofNat nn7.toNat)] : List UInt32)) (pre := []) (post := []) 2 rfl (by simp) rfl) uy70 uy70 (.inl ⟨_, rfl⟩) ty153.sz by153 z153 rfl (by simp; omega) rfl fun o70_12 hk70_12 => ⟨trivial, ?_⟩
     refine agl rfl <| jn <| e_in <| e_keep [1, 0] [2] [_, _] rfl (by kernel_rfl) ?_
     exact e_loop ((ms ++ ([(UInt32.ofNat nn7.toNat)] : List UInt32)), o70_12, na7, ((nq7 : Nat) : Int)) (⟨hk70_12, RK.fail hI1.2 (by omega) hnm7 (numR_bad_le hnm7 HQ)⟩) (rk_less (by have := (((hI1.2.core rfl).good rfl).1).1; omega) (by simp)) (⟨rfl, trivial⟩) rfl rfl rfl
   ·replace h6 := of_decide_eq_false h6
    refine c_exit rfl <| e_then <| c_seq ?_
    obtain rfl : bd = -1 := hI1.2.neg (by assumption)
    have HQ := hI1.2.qle rfl
    refine c_reg <| mvl rfl <| agl rfl <| jt <| c_ret ?_
    exact j_end (own0 := [[(b, .cells (cat [pt s, p1 (.int .i64 ((p : Nat) : Int)), p1 (.int .i64 (-1))]) 108)]]) (ro0 := [tPow10 9]) (.inl rfl) rfl (hr1 Tryz.results53 (rvt (v := (.slice _ _ _)) rfl)) [0, 1] [] [_, _] [] [] _ rfl rfl (by kernel_rfl) rfl impl_nil (.inl ⟨o, ms, q, hI1.2.done (by omega), ⟨HQ, HMS⟩, hI1.1, rfl, rfl, rfl⟩)
 ·replace h1 := of_decide_eq_false h1
  refine g_off rfl rfl rfl rfl <| g_off rfl rfl rfl rfl <| g_off rfl rfl rfl rfl <| g_off rfl rfl rfl rfl <| g_und rfl rfl rfl <| g_und rfl rfl rfl <| g_und rfl rfl rfl <| g_und rfl rfl rfl <| g_und rfl rfl rfl <| g_und rfl rfl rfl <| g_und rfl rfl rfl <| g_und rfl rfl rfl <| g_und rfl rfl rfl <| g_und rfl rfl rfl <| g_off rfl rfl rfl rfl <| pkf (.bool _) rfl rfl <| jt <| c_false rfl <| c_exit rfl <| e_then <| c_seq ?_
  obtain ⟨kb, rfl, HKB⟩ := hI1.2.bad (by assumption)
  refine c_reg <| mvl rfl <| agl rfl <| jt <| c_ret ?_
  exact j_end (own0 := [[(b, .cells (cat [pt s, p1 (.int .i64 ((p : Nat) : Int)), p1 (.int .i64 (-1))]) 108)]]) (ro0 := [tPow10 9]) (.inl rfl) rfl (hr1 Tryz.results53 (rvt (v := (.slice _ _ _)) rfl)) [0, 1] [] [_, _] [] [] _ rfl rfl (by kernel_rfl) rfl impl_nil (.inr ⟨o, ms, kb, q, HKB, HMS, hI1.1, rfl, rfl, rfl⟩)
end Go.Proofs.YtakbbpahfclgnaaGreatDoor
namespace Go.Proofs.YtakbbpahfclgnaaGreatDoor
open Go Go.Proofs Go.PW
open Go.PW.Enc (enc val)
theorem lay108 : ∀ fs, Tryz.prog.underlying 108 = some (.struct fs) → Lay Tryz.prog fs [(0, 1), (1, 1), (2, 1)] := fun fs h => by rw [Tryz.underlying108] at h; cases h; unfold Lay; kernel_rfl
theorem z108 : Zt Tryz.prog 108 (.agg ⟨cat [pt ([] : Str), pt (0 : Int), pt (0 : Int)]⟩) := by unfold Zt; kernel_rfl
theorem RParse_ct (s : Str) (hs : s.length ≤ 140737488351232) : Ct Tryz.prog 32 [strV s] [] [tPow10 9, tDb64 11] (fun v w r => (∃ (c : Con) (ms : List UInt32) (o : Ow) (q : Nat), parseR s = .inr ((c, ms), q) ∧ ms.length ≤ 101 ∧ o.ok ms ∧ v = .tuple #[.agg ⟨cat [pt c.kind, pt c.text, p1 (.slice o.adr ms.length o.cap), pt c.lat, pt c.long, pt c.number, pt c.key]⟩, .int .i64 0, .int .i64 0] ∧ w = [o.seg ms 153] ∧ r = []) ∨ (∃ q : Nat, parseR s = .inl q ∧ v = .tuple #[.agg ⟨cat [pt (0 : Int), pt ([] : Str), p1 (.slice none 0 0), pt (⟨0⟩ : F64), pt (⟨0⟩ : F64), pt (0 : UInt64), pt (zarr : Key)]⟩, .int .i64 (q : Int), .int .i64 90] ∧ w = [] ∧ r = [])) := by
 have HWL := wlen_le s 0
 have HWW := word_length s 0
 have HW0 : (word s 0).length ≤ s.length := by omega
 refine ct_enter Tryz.func32 rfl Tryz.ntmps32 (by kernel_rfl) rfl fun w0 => ?_
 refine csr <| alo [pt (0 : Int), pt ([] : Str), p1 (.slice none 0 0), pt (⟨0⟩ : F64), pt (⟨0⟩ : F64), pt (0 : UInt64), pt (zarr : (Arr UInt8 32))] _ z76 rfl fun b2 => ⟨trivial, ?_⟩
 refine agi rfl <| agi rfl <| jsr <| mvs rfl <| cal (wordEnd_ct s 0 (by omega) (by omega)) [] [0] [_] rfl rfl rfl (by kernel_rfl) impl_nil rfl ?_; rintro _ _ _ ⟨rfl, rfl, rfl⟩; refine ⟨trivial, ?_⟩
 refine j_re 9 (.int .i64 ((word s 0).length : Int)) (congrArg (fun n : Nat => Value.int .i64 (n : Int)) (show 0 + wlen s 0 = (word s 0).length by omega)) <| agi rfl <| jsr <| mvs rfl <| mvi rfl <| bld [pt ([] : Str), pt (0 : Int), pt (0 : Int)] [(0, pt s), (1, p1 (.int .i64 ((word s 0).length : Int))), (2, pt (-1 : Int))] _ uy108 (lay108 _ uy108) z108 rfl rfl rfl <| bxx [pt s, p1 (.int .i64 ((word s 0).length : Int)), pt (-1 : Int)] _ rfl rfl fun b13 => ⟨trivial, ?_⟩
 refine agp rfl <| jsr <| bld [pt (0 : Int), pt ([] : Str), p1 (.slice none 0 0), pt (⟨0⟩ : F64), pt (⟨0⟩ : F64), pt (0 : UInt64), pt (zarr : (Arr UInt8 32))] [] _ uy76 (lay76 _ uy76) z76 rfl rfl rfl <| alo [pt (0 : Int), pt ([] : Str), p1 (.slice none 0 0), pt (⟨0⟩ : F64), pt (⟨0⟩ : F64), pt (0 : UInt64), pt (zarr : (Arr UInt8 32))] _ z76 rfl fun b7 => ⟨trivial, ?_⟩
 refine stw 2 _ [pt (0 : Int), pt ([] : Str), p1 (.slice none 0 0), pt (⟨0⟩ : F64), pt (⟨0⟩ : F64), pt (0 : UInt64), pt (zarr : (Arr UInt8 32))] rfl rfl rfl rfl ty76 ⟨trivial, ?_⟩
 refine jt <| c_seq <| csr <| mvs rfl <| mvi rfl <| cutT (s := s) 0 ((word s 0).length) rfl uy9 rfl ⟨_, rfl⟩ (by first | omega | (simp; done) | (simp; omega)) (by first | omega | (simp; done) | (simp; omega)) (List.take ((word s 0).length) s) (cut_lo _ _) <| j_re 17 (strV (word s 0)) (congrArg strV (take_word0 s)) <| jt <| c_block <| csr <| scmp (a := (word s 0)) (b := ([116, 101, 120, 116] : Str)) _ rfl rfl uy9 rfl <| agb rfl <| jt <| c_cond rfl (fun h1 => ?_) (fun h1 => ?_)
 ·replace h1 := of_decide_eq_true h1
  refine csr <| fad rfl uy76 rfl ty3.sz <| stp 2 0 _ (pt (1 : Int)) rfl rfl rfl rfl rfl rfl ty3 ⟨trivial, ?_⟩
  refine jr <| mvp rfl <| cal (rdtext_ct b13 s ((word s 0).length) (by omega) (by omega) 0 2000 (by omega) (by omega)) [1] [0, 2] [_, _] rfl rfl rfl (by kernel_rfl) (impl_cons (impl_at 1 rfl) impl_nil) rfl ?_; rintro _ _ _ (⟨tt1, tq1, htx1, rfl, rfl, rfl⟩ | ⟨tt1, tq1, ta1, htx1, rfl, rfl, rfl⟩)
  ·have htx1b := textR_next htx1; refine ⟨trivial, ?_⟩
   refine fad rfl uy76 rfl ty9.sz <| stp 1 1 _ (pt tt1) rfl rfl rfl rfl rfl rfl ty9 ⟨trivial, ?_⟩
   refine jn <| e_in <| e_then <| c_seq <| csr <| mvp rfl <| nlc rfl <| fad rfl uy108 rfl ty3.sz <| ldp 2 2 _ rfl rfl rfl rfl ty3 <| cmp true rfl rfl rfl <| mvb rfl <| g_on rfl rfl rfl <| mvp rfl <| g_on rfl rfl rfl <| nlc rfl <| g_on rfl rfl rfl <| fad rfl uy108 rfl ty3.sz <| g_on rfl rfl rfl <| ldp 2 1 _ rfl rfl rfl rfl ty3 <| g_on rfl rfl rfl <| mvs rfl <| g_on rfl rfl rfl <| lenT (s := s) rfl uy9 <| g_on rfl rfl rfl <| cmp _ rfl rfl rfl <| pkt (.bool _) rfl rfl <| jt <| c_cond rfl (fun h2 => ?_) (fun h2 => ?_)
   ·replace h2 := ndt h2
    refine c_reg <| mvp rfl <| mvp rfl <| nlc rfl <| fad rfl uy108 rfl ty3.sz <| ldp 2 1 _ rfl rfl rfl rfl ty3 <| nlc rfl <| fad rfl uy108 rfl ty3.sz <| stp 2 2 _ (p1 (.int .i64 ((tq1 : Nat) : Int))) rfl rfl rfl rfl rfl rfl ty3 ⟨trivial, ?_⟩
    refine jt <| c_seq <| csr <| mvp rfl <| nlc rfl <| fad rfl uy108 rfl ty3.sz <| ldp 2 2 _ rfl rfl rfl rfl ty3 <| cmp true rfl rfl (by simp only [cmpV]; exact congrArg some (decide_eq_true (by omega))) <| jt <| c_true rfl <| c_seq <| c_dr [_, _, _, _] [] [(0, 0), (1, 0), (2, 0), (3, 0), (4, 0), (5, 1), (6, 0), (7, 0)] follows (by kernel_rfl) calm_body (keepS [1, 2, 3, 4] rfl) <| bld [pt (0 : Int), pt ([] : Str), p1 (.slice none 0 0), pt (⟨0⟩ : F64), pt (⟨0⟩ : F64), pt (0 : UInt64), pt (zarr : (Arr UInt8 32))] [] _ uy76 (lay76 _ uy76) z76 rfl rfl rfl <| mvp rfl <| nlc rfl <| fad rfl uy108 rfl ty3.sz <| ldp 1 2 _ rfl rfl rfl rfl ty3 <| stw 0 _ [pt (0 : Int), pt ([] : Str), p1 (.slice none 0 0), pt (⟨0⟩ : F64), pt (⟨0⟩ : F64), pt (0 : UInt64), pt (zarr : (Arr UInt8 32))] rfl rfl rfl rfl ty76 ⟨keepI [1, 2, 3, 4] rfl, ?_⟩
    refine agi rfl <| agi rfl <| jt <| c_ret ?_
    exact j_d (own0 := []) (ro0 := [tPow10 9, tDb64 11]) (.inl rfl) rfl (hr3 Tryz.results32 (rvc (p := pa [pt (0 : Int), pt ([] : Str), p1 (.slice none 0 0), pt (⟨0⟩ : F64), pt (⟨0⟩ : F64), pt (0 : UInt64), pt (zarr : (Arr UInt8 32))]) 0 rfl rfl rfl ty76) (rvt (v := (.int _ _)) rfl) (rvt (v := (.int _ _)) rfl)) [0, 1, 2] [_, _, _] rfl (by kernel_rfl) rfl (.inr ⟨_, parse_text_e (by assumption) htx1 (by omega), rfl, rfl, rfl⟩)
   ·replace h2 := ndf h2
    refine c_skip <| e_then <| c_seq <| csr <| mvp rfl <| nlc rfl <| fad rfl uy108 rfl ty3.sz <| ldp 2 2 _ rfl rfl rfl rfl ty3 <| cmp false rfl rfl rfl <| jt <| c_false rfl <| c_skip <| e_then <| csr <| ldw 1 _ rfl rfl ty76 <| stw 0 _ [pt (1 : Int), pt tt1, p1 (.slice none 0 0), pt (⟨0⟩ : F64), pt (⟨0⟩ : F64), pt (0 : UInt64), pt (zarr : (Arr UInt8 32))] rfl rfl rfl rfl ty76 ⟨trivial, ?_⟩
    refine agi rfl <| agi rfl <| jt <| c_ret <| e_addE ?_
    exact j_end (own0 := []) (ro0 := [tPow10 9, tDb64 11]) (.inl rfl) rfl (hr3 Tryz.results32 (rvc (p := pa [pt (1 : Int), pt tt1, p1 (.slice none 0 0), pt (⟨0⟩ : F64), pt (⟨0⟩ : F64), pt (0 : UInt64), pt (zarr : (Arr UInt8 32))]) 0 rfl rfl rfl ty76) (rvt (v := (.int _ _)) rfl) (rvt (v := (.int _ _)) rfl)) [3] [0, 1, 2] [_] [_, _, _] [] _ rfl rfl (by kernel_rfl) rfl impl_nil (.inl ⟨(⟨(1 : Int), tt1, (⟨0⟩ : F64), (⟨0⟩ : F64), (0 : UInt64), (zarr : (Arr UInt8 32))⟩ : Con), [], Ow.nil, _, (by have h := parse_text (by assumption) htx1 (by omega); exact h), by simp, Ow.nil_ok, rfl, rfl, rfl⟩)
  ·refine ⟨trivial, ?_⟩
   refine fad rfl uy76 rfl ty9.sz <| stp 1 1 _ (pt tt1) rfl rfl rfl rfl rfl rfl ty9 ⟨trivial, ?_⟩
   refine jn <| e_in <| e_then <| c_seq <| csr <| mvp rfl <| nlc rfl <| fad rfl uy108 rfl ty3.sz <| ldp 2 2 _ rfl rfl rfl rfl ty3 <| cmp false rfl rfl (by simp only [cmpV]; exact congrArg some (decide_eq_false (by omega))) <| mvb rfl <| g_off rfl rfl rfl rfl <| g_off rfl rfl rfl rfl <| g_off rfl rfl rfl rfl <| g_off rfl rfl rfl rfl <| g_off rfl rfl rfl rfl <| g_off rfl rfl rfl rfl <| g_off rfl rfl rfl rfl <| pkf (.bool _) rfl rfl <| jt <| c_false rfl <| c_skip <| e_then <| c_seq <| csr <| mvp rfl <| nlc rfl <| fad rfl uy108 rfl ty3.sz <| ldp 2 2 _ rfl rfl rfl rfl ty3 <| cmp true rfl rfl (by simp only [cmpV]; exact congrArg some (decide_eq_true (by omega))) <| jt <| c_true rfl <| c_seq <| c_dr [_, _, _, _] [] [(0, 0), (1, 0), (2, 0), (3, 0), (4, 0), (5, 1), (6, 0), (7, 0)] follows (by kernel_rfl) calm_body (keepS [1, 2, 3, 4] rfl) <| bld [pt (0 : Int), pt ([] : Str), p1 (.slice none 0 0), pt (⟨0⟩ : F64), pt (⟨0⟩ : F64), pt (0 : UInt64), pt (zarr : (Arr UInt8 32))] [] _ uy76 (lay76 _ uy76) z76 rfl rfl rfl <| mvp rfl <| nlc rfl <| fad rfl uy108 rfl ty3.sz ?_
   refine ldp 1 2 _ rfl rfl rfl rfl ty3 <| stw 0 _ [pt (0 : Int), pt ([] : Str), p1 (.slice none 0 0), pt (⟨0⟩ : F64), pt (⟨0⟩ : F64), pt (0 : UInt64), pt (zarr : (Arr UInt8 32))] rfl rfl rfl rfl ty76 ⟨keepI [1, 2, 3, 4] rfl, ?_⟩
   refine agi rfl <| agi rfl <| jt <| c_ret ?_
   exact j_d (own0 := []) (ro0 := [tPow10 9, tDb64 11]) (.inl rfl) rfl (hr3 Tryz.results32 (rvc (p := pa [pt (0 : Int), pt ([] : Str), p1 (.slice none 0 0), pt (⟨0⟩ : F64), pt (⟨0⟩ : F64), pt (0 : UInt64), pt (zarr : (Arr UInt8 32))]) 0 rfl rfl rfl ty76) (rvt (v := (.int _ _)) rfl) (rvt (v := (.int _ _)) rfl)) [0, 1, 2] [_, _, _] rfl (by kernel_rfl) rfl (.inr ⟨_, parse_text_f0 (by assumption) htx1, rfl, rfl, rfl⟩)
 ·replace h1 := of_decide_eq_false h1
  refine c_seq <| csr <| scmp (a := (word s 0)) (b := ([99, 97, 109, 101] : Str)) _ rfl rfl uy9 rfl <| agb rfl <| jt <| c_cond rfl (fun h3 => ?_) (fun h3 => ?_)
  ·replace h3 := of_decide_eq_true h3
   refine c_skip <| e_then <| c_cond rfl (fun h4 => ?_) (fun h4 => ?_)
   ·replace h4 := of_decide_eq_true h4
    refine csr <| fad rfl uy76 rfl ty3.sz <| stp 2 0 _ (pt (2 : Int)) rfl rfl rfl rfl rfl rfl ty3 ⟨trivial, ?_⟩
    refine fad rfl uy76 rfl ty72.sz <| stp 2 5 _ (pt (1 : UInt64)) rfl rfl rfl rfl rfl rfl ty72 ⟨trivial, ?_⟩
    refine jt <| c_seq <| csr <| mvs rfl <| mvi rfl <| cutT (s := s) 0 ((word s 0).length) rfl uy9 rfl ⟨_, rfl⟩ (by first | omega | (simp; done) | (simp; omega)) (by first | omega | (simp; done) | (simp; omega)) (List.take ((word s 0).length) s) (cut_lo _ _) <| j_re 34 (strV (word s 0)) (congrArg strV (take_word0 s)) <| scmp (a := (word s 0)) (b := ([114, 101, 97, 100] : Str)) _ rfl rfl uy9 rfl <| j_re 35 (.bool false) (congrArg Value.bool (decide_eq_false (fun hh => absurd ((show word s 0 = [99, 97, 109, 101] by assumption).symm.trans hh) (by decide)))) <| jt <| c_false rfl <| c_skip <| e_then <| c_reg <| mvp rfl <| cal (rdmarks_ct b13 s ((word s 0).length) (by omega) (by omega)) [1] [0, 2] [_, _] rfl rfl rfl (by kernel_rfl) (impl_cons (impl_at 0 rfl) impl_nil) rfl ?_; rintro _ _ _ (⟨mo2, mm2, mq2, hmk2, hmk2b, hmk2o, rfl, rfl, rfl⟩ | ⟨mo2, mm2, mq2, ma2, hmk2, hmk2b, hmk2o, rfl, rfl, rfl⟩)
    ·refine ⟨trivial, ?_⟩
     refine fad rfl uy76 rfl ty70.sz <| stp 1 2 _ (p1 (.slice mo2.adr mm2.length mo2.cap)) rfl rfl rfl rfl rfl rfl ty70 ⟨trivial, ?_⟩
     refine jn <| e_in <| e_then <| c_seq <| csr <| mvp rfl <| nlc rfl <| fad rfl uy108 rfl ty3.sz <| ldp 2 2 _ rfl rfl rfl rfl ty3 <| cmp true rfl rfl rfl <| mvb rfl <| g_on rfl rfl rfl <| mvp rfl <| g_on rfl rfl rfl <| nlc rfl <| g_on rfl rfl rfl <| fad rfl uy108 rfl ty3.sz <| g_on rfl rfl rfl <| ldp 2 1 _ rfl rfl rfl rfl ty3 <| g_on rfl rfl rfl <| mvs rfl <| g_on rfl rfl rfl <| lenT (s := s) rfl uy9 <| g_on rfl rfl rfl <| cmp _ rfl rfl rfl <| pkt (.bool _) rfl rfl <| jt <| c_cond rfl (fun h5 => ?_) (fun h5 => ?_)
     ·replace h5 := ndt h5
      refine c_reg <| mvp rfl <| mvp rfl <| nlc rfl <| fad rfl uy108 rfl ty3.sz <| ldp 2 1 _ rfl rfl rfl rfl ty3 <| nlc rfl <| fad rfl uy108 rfl ty3.sz <| stp 2 2 _ (p1 (.int .i64 ((mq2 : Nat) : Int))) rfl rfl rfl rfl rfl rfl ty3 ⟨trivial, ?_⟩
      refine jt <| c_seq <| csr <| mvp rfl <| nlc rfl <| fad rfl uy108 rfl ty3.sz <| ldp 2 2 _ rfl rfl rfl rfl ty3 <| cmp true rfl rfl (by simp only [cmpV]; exact congrArg some (decide_eq_true (by omega))) <| jt <| c_true rfl <| c_seq <| c_dr [_, _, _, _, _] [] [(0, 0), (1, 0), (2, 0), (3, 0), (4, 0), (5, 1), (6, 0), (7, 0)] follows (by kernel_rfl) calm_body (keepS [1, 2, 3, 4, 5] rfl) <| bld [pt (0 : Int), pt ([] : Str), p1 (.slice none 0 0), pt (⟨0⟩ : F64), pt (⟨0⟩ : F64), pt (0 : UInt64), pt (zarr : (Arr UInt8 32))] [] _ uy76 (lay76 _ uy76) z76 rfl rfl rfl <| mvp rfl <| nlc rfl <| fad rfl uy108 rfl ty3.sz <| ldp 1 2 _ rfl rfl rfl rfl ty3 <| stw 0 _ [pt (0 : Int), pt ([] : Str), p1 (.slice none 0 0), pt (⟨0⟩ : F64), pt (⟨0⟩ : F64), pt (0 : UInt64), pt (zarr : (Arr UInt8 32))] rfl rfl rfl rfl ty76 ⟨keepI [1, 2, 3, 4, 5] rfl, ?_⟩
      refine agi rfl <| agi rfl <| jt <| c_ret ?_
      exact j_d (own0 := []) (ro0 := [tPow10 9, tDb64 11]) (.inl rfl) rfl (hr3 Tryz.results32 (rvc (p := pa [pt (0 : Int), pt ([] : Str), p1 (.slice none 0 0), pt (⟨0⟩ : F64), pt (⟨0⟩ : F64), pt (0 : UInt64), pt (zarr : (Arr UInt8 32))]) 0 rfl rfl rfl ty76) (rvt (v := (.int _ _)) rfl) (rvt (v := (.int _ _)) rfl)) [0, 1, 2, 3] [_, _, _, _] rfl (by kernel_rfl) rfl (.inr ⟨_, parse_came_e (by assumption) hmk2 (by omega), rfl, rfl, rfl⟩)
     ·replace h5 := ndf h5
      refine c_skip <| e_then <| c_seq <| csr <| mvp rfl <| nlc rfl <| fad rfl uy108 rfl ty3.sz <| ldp 2 2 _ rfl rfl rfl rfl ty3 <| cmp false rfl rfl rfl <| jt <| c_false rfl <| c_skip <| e_then <| csr <| ldw 1 _ rfl rfl ty76 <| stw 0 _ [pt (2 : Int), pt ([] : Str), p1 (.slice mo2.adr mm2.length mo2.cap), pt (⟨0⟩ : F64), pt (⟨0⟩ : F64), pt (1 : UInt64), pt (zarr : (Arr UInt8 32))] rfl rfl rfl rfl ty76 ⟨trivial, ?_⟩
      refine agi rfl <| agi rfl <| jt <| c_ret ?_
      exact j_end (own0 := []) (ro0 := [tPow10 9, tDb64 11]) (.inl rfl) rfl (hr3 Tryz.results32 (rvc (p := pa [pt (2 : Int), pt ([] : Str), p1 (.slice mo2.adr mm2.length mo2.cap), pt (⟨0⟩ : F64), pt (⟨0⟩ : F64), pt (1 : UInt64), pt (zarr : (Arr UInt8 32))]) 0 rfl rfl rfl ty76) (rvt (v := (.int _ _)) rfl) (rvt (v := (.int _ _)) rfl)) [3] [0, 1, 2] [_] [_, _, _] [] _ rfl rfl (by kernel_rfl) rfl impl_nil (.inl ⟨(⟨(2 : Int), ([] : Str), (⟨0⟩ : F64), (⟨0⟩ : F64), (1 : UInt64), (zarr : (Arr UInt8 32))⟩ : Con), mm2, mo2, _, (by have h := parse_came (by assumption) hmk2 (by omega); exact h), by omega, hmk2o, rfl, rfl, rfl⟩)
    ·refine ⟨trivial, ?_⟩
     refine fad rfl uy76 rfl ty70.sz <| stp 1 2 _ (p1 (.slice mo2.adr mm2.length mo2.cap)) rfl rfl rfl rfl rfl rfl ty70 ⟨trivial, ?_⟩
     refine jn <| e_in <| e_then <| c_seq <| csr <| mvp rfl <| nlc rfl <| fad rfl uy108 rfl ty3.sz <| ldp 2 2 _ rfl rfl rfl rfl ty3 <| cmp false rfl rfl (by simp only [cmpV]; exact congrArg some (decide_eq_false (by omega))) <| mvb rfl <| g_off rfl rfl rfl rfl <| g_off rfl rfl rfl rfl <| g_off rfl rfl rfl rfl <| g_off rfl rfl rfl rfl <| g_off rfl rfl rfl rfl <| g_off rfl rfl rfl rfl <| g_off rfl rfl rfl rfl <| pkf (.bool _) rfl rfl <| jt <| c_false rfl <| c_skip <| e_then <| c_seq <| csr <| mvp rfl <| nlc rfl <| fad rfl uy108 rfl ty3.sz <| ldp 2 2 _ rfl rfl rfl rfl ty3 <| cmp true rfl rfl (by simp only [cmpV]; exact congrArg some (decide_eq_true (by omega))) <| jt <| c_true rfl <| c_seq <| c_dr [_, _, _, _, _] [] [(0, 0), (1, 0), (2, 0), (3, 0), (4, 0), (5, 1), (6, 0), (7, 0)] follows (by kernel_rfl) calm_body (keepS [1, 2, 3, 4, 5] rfl) <| bld [pt (0 : Int), pt ([] : Str), p1 (.slice none 0 0), pt (⟨0⟩ : F64), pt (⟨0⟩ : F64), pt (0 : UInt64), pt (zarr : (Arr UInt8 32))] [] _ uy76 (lay76 _ uy76) z76 rfl rfl rfl <| mvp rfl <| nlc rfl <| fad rfl uy108 rfl ty3.sz ?_
     refine ldp 1 2 _ rfl rfl rfl rfl ty3 <| stw 0 _ [pt (0 : Int), pt ([] : Str), p1 (.slice none 0 0), pt (⟨0⟩ : F64), pt (⟨0⟩ : F64), pt (0 : UInt64), pt (zarr : (Arr UInt8 32))] rfl rfl rfl rfl ty76 ⟨keepI [1, 2, 3, 4, 5] rfl, ?_⟩
     refine agi rfl <| agi rfl <| jt <| c_ret ?_
     exact j_d (own0 := []) (ro0 := [tPow10 9, tDb64 11]) (.inl rfl) rfl (hr3 Tryz.results32 (rvc (p := pa [pt (0 : Int), pt ([] : Str), p1 (.slice none 0 0), pt (⟨0⟩ : F64), pt (⟨0⟩ : F64), pt (0 : UInt64), pt (zarr : (Arr UInt8 32))]) 0 rfl rfl rfl ty76) (rvt (v := (.int _ _)) rfl) (rvt (v := (.int _ _)) rfl)) [0, 1, 2, 3] [_, _, _, _] rfl (by kernel_rfl) rfl (.inr ⟨_, parse_came_f0 (by assumption) hmk2, rfl, rfl, rfl⟩)
   ·replace h4 := of_decide_eq_false h4
    refine csr <| scmp (a := (word s 0)) (b := ([112, 108, 97, 99, 101] : Str)) _ rfl rfl uy9 rfl <| agb rfl <| jt <| c_cond rfl (fun h6 => ?_) (fun h6 => ?_)
    ·replace h6 := of_decide_eq_true h6
     refine csr <| fad rfl uy76 rfl ty3.sz <| stp 2 0 _ (pt (3 : Int)) rfl rfl rfl rfl rfl rfl ty3 ⟨trivial, ?_⟩
     refine jsr <| mvp rfl <| cal (rdfl_ct b13 s ((word s 0).length) (by omega) (by omega) (90 : UInt64) ⟨4636033603912859648⟩ (by decide) earth_90) [1] [0, 2] [_, _] rfl rfl rfl (by kernel_rfl) impl_nil rfl ?_; rintro _ _ _ (⟨df3, dq3, hdg3, rfl, rfl, rfl⟩ | ⟨df3, dq3, da3, hdg3, rfl, rfl, rfl⟩)
     ·have hdg3b := degR_next hdg3; refine ⟨trivial, ?_⟩
      refine fad rfl uy76 rfl ty71.sz <| stp 1 3 _ (pt df3) rfl rfl rfl rfl rfl rfl ty71 ⟨trivial, ?_⟩
      refine jsr <| mvp rfl <| cal (rdfl_ct b13 s dq3 (by omega) (by omega) (180 : UInt64) ⟨4640537203540230144⟩ (by decide) earth_180) [2] [0, 1] [_, _] rfl rfl rfl (by kernel_rfl) impl_nil rfl ?_; rintro _ _ _ (⟨df4, dq4, hdg4, rfl, rfl, rfl⟩ | ⟨df4, dq4, da4, hdg4, rfl, rfl, rfl⟩)
      ·have hdg4b := degR_next hdg4; refine ⟨trivial, ?_⟩
       refine fad rfl uy76 rfl ty71.sz <| stp 1 4 _ (pt df4) rfl rfl rfl rfl rfl rfl ty71 ⟨trivial, ?_⟩
       refine jr <| mvp rfl <| cal (rdtext_ct b13 s dq4 (by omega) (by omega) 0 200 (by omega) (by omega)) [2] [0, 1] [_, _] rfl rfl rfl (by kernel_rfl) (impl_cons (impl_at 1 rfl) impl_nil) rfl ?_; rintro _ _ _ (⟨tt5, tq5, htx5, rfl, rfl, rfl⟩ | ⟨tt5, tq5, ta5, htx5, rfl, rfl, rfl⟩)
       ·have htx5b := textR_next htx5; refine ⟨trivial, ?_⟩
        refine fad rfl uy76 rfl ty9.sz <| stp 1 1 _ (pt tt5) rfl rfl rfl rfl rfl rfl ty9 ⟨trivial, ?_⟩
        refine jn <| e_in <| e_then <| c_seq <| csr <| mvp rfl <| nlc rfl <| fad rfl uy108 rfl ty3.sz <| ldp 2 2 _ rfl rfl rfl rfl ty3 <| cmp true rfl rfl rfl <| mvb rfl <| g_on rfl rfl rfl <| mvp rfl <| g_on rfl rfl rfl <| nlc rfl <| g_on rfl rfl rfl <| fad rfl uy108 rfl ty3.sz <| g_on rfl rfl rfl <| ldp 2 1 _ rfl rfl rfl rfl ty3 <| g_on rfl rfl rfl <| mvs rfl <| g_on rfl rfl rfl <| lenT (s := s) rfl uy9 <| g_on rfl rfl rfl <| cmp _ rfl rfl rfl <| pkt (.bool _) rfl rfl <| jt <| c_cond rfl (fun h7 => ?_) (fun h7 => ?_)
        ·replace h7 := ndt h7
         refine c_reg <| mvp rfl <| mvp rfl <| nlc rfl <| fad rfl uy108 rfl ty3.sz <| ldp 2 1 _ rfl rfl rfl rfl ty3 <| nlc rfl <| fad rfl uy108 rfl ty3.sz <| stp 2 2 _ (p1 (.int .i64 ((tq5 : Nat) : Int))) rfl rfl rfl rfl rfl rfl ty3 ⟨trivial, ?_⟩
         refine jt <| c_seq <| csr <| mvp rfl <| nlc rfl <| fad rfl uy108 rfl ty3.sz <| ldp 2 2 _ rfl rfl rfl rfl ty3 <| cmp true rfl rfl (by simp only [cmpV]; exact congrArg some (decide_eq_true (by omega))) <| jt <| c_true rfl <| c_seq <| c_dr [_, _, _, _] [] [(0, 0), (1, 0), (2, 0), (3, 0), (4, 0), (5, 1), (6, 0), (7, 0)] follows (by kernel_rfl) calm_body (keepS [1, 2, 3, 4] rfl) <| bld [pt (0 : Int), pt ([] : Str), p1 (.slice none 0 0), pt (⟨0⟩ : F64), pt (⟨0⟩ : F64), pt (0 : UInt64), pt (zarr : (Arr UInt8 32))] [] _ uy76 (lay76 _ uy76) z76 rfl rfl rfl <| mvp rfl <| nlc rfl <| fad rfl uy108 rfl ty3.sz <| ldp 1 2 _ rfl rfl rfl rfl ty3 <| stw 0 _ [pt (0 : Int), pt ([] : Str), p1 (.slice none 0 0), pt (⟨0⟩ : F64), pt (⟨0⟩ : F64), pt (0 : UInt64), pt (zarr : (Arr UInt8 32))] rfl rfl rfl rfl ty76 ⟨keepI [1, 2, 3, 4] rfl, ?_⟩
         refine agi rfl <| agi rfl <| jt <| c_ret ?_
         exact j_d (own0 := []) (ro0 := [tPow10 9, tDb64 11]) (.inl rfl) rfl (hr3 Tryz.results32 (rvc (p := pa [pt (0 : Int), pt ([] : Str), p1 (.slice none 0 0), pt (⟨0⟩ : F64), pt (⟨0⟩ : F64), pt (0 : UInt64), pt (zarr : (Arr UInt8 32))]) 0 rfl rfl rfl ty76) (rvt (v := (.int _ _)) rfl) (rvt (v := (.int _ _)) rfl)) [0, 1, 2] [_, _, _] rfl (by kernel_rfl) rfl (.inr ⟨_, parse_place_e (by assumption) hdg3 hdg4 htx5 (by omega), rfl, rfl, rfl⟩)
        ·replace h7 := ndf h7
         refine c_skip <| e_then <| c_seq <| csr <| mvp rfl <| nlc rfl <| fad rfl uy108 rfl ty3.sz <| ldp 2 2 _ rfl rfl rfl rfl ty3 <| cmp false rfl rfl rfl <| jt <| c_false rfl <| c_skip <| e_then <| csr <| ldw 1 _ rfl rfl ty76 <| stw 0 _ [pt (3 : Int), pt tt5, p1 (.slice none 0 0), pt df3, pt df4, pt (0 : UInt64), pt (zarr : (Arr UInt8 32))] rfl rfl rfl rfl ty76 ⟨trivial, ?_⟩
         refine agi rfl <| agi rfl <| jt <| c_ret <| e_addE ?_
         exact j_end (own0 := []) (ro0 := [tPow10 9, tDb64 11]) (.inl rfl) rfl (hr3 Tryz.results32 (rvc (p := pa [pt (3 : Int), pt tt5, p1 (.slice none 0 0), pt df3, pt df4, pt (0 : UInt64), pt (zarr : (Arr UInt8 32))]) 0 rfl rfl rfl ty76) (rvt (v := (.int _ _)) rfl) (rvt (v := (.int _ _)) rfl)) [3] [0, 1, 2] [_] [_, _, _] [] _ rfl rfl (by kernel_rfl) rfl impl_nil (.inl ⟨(⟨(3 : Int), tt5, df3, df4, (0 : UInt64), (zarr : (Arr UInt8 32))⟩ : Con), [], Ow.nil, _, (by have h := parse_place (by assumption) hdg3 hdg4 htx5 (by omega); exact h), by simp, Ow.nil_ok, rfl, rfl, rfl⟩)
       ·refine ⟨trivial, ?_⟩
        refine fad rfl uy76 rfl ty9.sz <| stp 1 1 _ (pt tt5) rfl rfl rfl rfl rfl rfl ty9 ⟨trivial, ?_⟩
        refine jn <| e_in <| e_then <| c_seq <| csr <| mvp rfl <| nlc rfl <| fad rfl uy108 rfl ty3.sz <| ldp 2 2 _ rfl rfl rfl rfl ty3 <| cmp false rfl rfl (by simp only [cmpV]; exact congrArg some (decide_eq_false (by omega))) <| mvb rfl <| g_off rfl rfl rfl rfl <| g_off rfl rfl rfl rfl <| g_off rfl rfl rfl rfl <| g_off rfl rfl rfl rfl <| g_off rfl rfl rfl rfl <| g_off rfl rfl rfl rfl <| g_off rfl rfl rfl rfl <| pkf (.bool _) rfl rfl <| jt <| c_false rfl <| c_skip <| e_then <| c_seq <| csr <| mvp rfl <| nlc rfl <| fad rfl uy108 rfl ty3.sz <| ldp 2 2 _ rfl rfl rfl rfl ty3 <| cmp true rfl rfl (by simp only [cmpV]; exact congrArg some (decide_eq_true (by omega))) <| jt <| c_true rfl <| c_seq <| c_dr [_, _, _, _] [] [(0, 0), (1, 0), (2, 0), (3, 0), (4, 0), (5, 1), (6, 0), (7, 0)] follows (by kernel_rfl) calm_body (keepS [1, 2, 3, 4] rfl) <| bld [pt (0 : Int), pt ([] : Str), p1 (.slice none 0 0), pt (⟨0⟩ : F64), pt (⟨0⟩ : F64), pt (0 : UInt64), pt (zarr : (Arr UInt8 32))] [] _ uy76 (lay76 _ uy76) z76 rfl rfl rfl <| mvp rfl <| nlc rfl <| fad rfl uy108 rfl ty3.sz ?_
        refine ldp 1 2 _ rfl rfl rfl rfl ty3 <| stw 0 _ [pt (0 : Int), pt ([] : Str), p1 (.slice none 0 0), pt (⟨0⟩ : F64), pt (⟨0⟩ : F64), pt (0 : UInt64), pt (zarr : (Arr UInt8 32))] rfl rfl rfl rfl ty76 ⟨keepI [1, 2, 3, 4] rfl, ?_⟩
        refine agi rfl <| agi rfl <| jt <| c_ret ?_
        exact j_d (own0 := []) (ro0 := [tPow10 9, tDb64 11]) (.inl rfl) rfl (hr3 Tryz.results32 (rvc (p := pa [pt (0 : Int), pt ([] : Str), p1 (.slice none 0 0), pt (⟨0⟩ : F64), pt (⟨0⟩ : F64), pt (0 : UInt64), pt (zarr : (Arr UInt8 32))]) 0 rfl rfl rfl ty76) (rvt (v := (.int _ _)) rfl) (rvt (v := (.int _ _)) rfl)) [0, 1, 2] [_, _, _] rfl (by kernel_rfl) rfl (.inr ⟨_, parse_place_f2 (by assumption) hdg3 hdg4 htx5, rfl, rfl, rfl⟩)
      ·refine ⟨trivial, ?_⟩
       refine fad rfl uy76 rfl ty71.sz <| stp 1 4 _ (pt df4) rfl rfl rfl rfl rfl rfl ty71 ⟨trivial, ?_⟩
       refine jr <| mvp rfl <| cal (rdtext_bad b13 s da4 dq4 0 200) [2] [0, 1] [_, _] rfl rfl rfl (by kernel_rfl) impl_nil rfl ?_; rintro _ _ _ ⟨rfl, rfl, rfl⟩; refine ⟨trivial, ?_⟩
       refine fad rfl uy76 rfl ty9.sz <| stp 1 1 _ (pt ([] : Str)) rfl rfl rfl rfl rfl rfl ty9 ⟨trivial, ?_⟩
       refine jn <| e_in <| e_then <| c_seq <| csr <| mvp rfl <| nlc rfl <| fad rfl uy108 rfl ty3.sz <| ldp 2 2 _ rfl rfl rfl rfl ty3 <| cmp false rfl rfl (by simp only [cmpV]; exact congrArg some (decide_eq_false (by omega))) <| mvb rfl <| g_off rfl rfl rfl rfl <| g_off rfl rfl rfl rfl <| g_off rfl rfl rfl rfl <| g_off rfl rfl rfl rfl <| g_off rfl rfl rfl rfl <| g_off rfl rfl rfl rfl <| g_off rfl rfl rfl rfl <| pkf (.bool _) rfl rfl <| jt <| c_false rfl <| c_skip <| e_then <| c_seq <| csr <| mvp rfl <| nlc rfl <| fad rfl uy108 rfl ty3.sz <| ldp 2 2 _ rfl rfl rfl rfl ty3 <| cmp true rfl rfl (by simp only [cmpV]; exact congrArg some (decide_eq_true (by omega))) <| jt <| c_true rfl <| c_seq <| c_dr [_, _, _, _] [] [(0, 0), (1, 0), (2, 0), (3, 0), (4, 0), (5, 1), (6, 0), (7, 0)] follows (by kernel_rfl) calm_body (keepS [1, 2, 3, 4] rfl) <| bld [pt (0 : Int), pt ([] : Str), p1 (.slice none 0 0), pt (⟨0⟩ : F64), pt (⟨0⟩ : F64), pt (0 : UInt64), pt (zarr : (Arr UInt8 32))] [] _ uy76 (lay76 _ uy76) z76 rfl rfl rfl <| mvp rfl <| nlc rfl <| fad rfl uy108 rfl ty3.sz ?_
       refine ldp 1 2 _ rfl rfl rfl rfl ty3 <| stw 0 _ [pt (0 : Int), pt ([] : Str), p1 (.slice none 0 0), pt (⟨0⟩ : F64), pt (⟨0⟩ : F64), pt (0 : UInt64), pt (zarr : (Arr UInt8 32))] rfl rfl rfl rfl ty76 ⟨keepI [1, 2, 3, 4] rfl, ?_⟩
       refine agi rfl <| agi rfl <| jt <| c_ret ?_
       exact j_d (own0 := []) (ro0 := [tPow10 9, tDb64 11]) (.inl rfl) rfl (hr3 Tryz.results32 (rvc (p := pa [pt (0 : Int), pt ([] : Str), p1 (.slice none 0 0), pt (⟨0⟩ : F64), pt (⟨0⟩ : F64), pt (0 : UInt64), pt (zarr : (Arr UInt8 32))]) 0 rfl rfl rfl ty76) (rvt (v := (.int _ _)) rfl) (rvt (v := (.int _ _)) rfl)) [0, 1, 2] [_, _, _] rfl (by kernel_rfl) rfl (.inr ⟨_, parse_place_f1 (by assumption) hdg3 hdg4, rfl, rfl, rfl⟩)
     ·refine ⟨trivial, ?_⟩
      refine fad rfl uy76 rfl ty71.sz <| stp 1 3 _ (pt df3) rfl rfl rfl rfl rfl rfl ty71 ⟨trivial, ?_⟩
      refine jsr <| mvp rfl <| cal (rdfl_bad b13 s da3 dq3 (180 : UInt64)) [2] [0, 1] [_, _] rfl rfl rfl (by kernel_rfl) impl_nil rfl ?_; rintro _ _ _ ⟨rfl, rfl, rfl⟩; refine ⟨trivial, ?_⟩
      refine fad rfl uy76 rfl ty71.sz <| stp 1 4 _ (pt (⟨0⟩ : F64)) rfl rfl rfl rfl rfl rfl ty71 ⟨trivial, ?_⟩
      refine jr <| mvp rfl <| cal (rdtext_bad b13 s da3 dq3 0 200) [2] [0, 1] [_, _] rfl rfl rfl (by kernel_rfl) impl_nil rfl ?_; rintro _ _ _ ⟨rfl, rfl, rfl⟩; refine ⟨trivial, ?_⟩
      refine fad rfl uy76 rfl ty9.sz <| stp 1 1 _ (pt ([] : Str)) rfl rfl rfl rfl rfl rfl ty9 ⟨trivial, ?_⟩
      refine jn <| e_in <| e_then <| c_seq <| csr <| mvp rfl <| nlc rfl <| fad rfl uy108 rfl ty3.sz <| ldp 2 2 _ rfl rfl rfl rfl ty3 <| cmp false rfl rfl (by simp only [cmpV]; exact congrArg some (decide_eq_false (by omega))) <| mvb rfl <| g_off rfl rfl rfl rfl <| g_off rfl rfl rfl rfl <| g_off rfl rfl rfl rfl <| g_off rfl rfl rfl rfl <| g_off rfl rfl rfl rfl <| g_off rfl rfl rfl rfl <| g_off rfl rfl rfl rfl <| pkf (.bool _) rfl rfl <| jt <| c_false rfl <| c_skip <| e_then <| c_seq <| csr <| mvp rfl <| nlc rfl <| fad rfl uy108 rfl ty3.sz <| ldp 2 2 _ rfl rfl rfl rfl ty3 <| cmp true rfl rfl (by simp only [cmpV]; exact congrArg some (decide_eq_true (by omega))) <| jt <| c_true rfl <| c_seq <| c_dr [_, _, _, _] [] [(0, 0), (1, 0), (2, 0), (3, 0), (4, 0), (5, 1), (6, 0), (7, 0)] follows (by kernel_rfl) calm_body (keepS [1, 2, 3, 4] rfl) <| bld [pt (0 : Int), pt ([] : Str), p1 (.slice none 0 0), pt (⟨0⟩ : F64), pt (⟨0⟩ : F64), pt (0 : UInt64), pt (zarr : (Arr UInt8 32))] [] _ uy76 (lay76 _ uy76) z76 rfl rfl rfl <| mvp rfl <| nlc rfl <| fad rfl uy108 rfl ty3.sz ?_
      refine ldp 1 2 _ rfl rfl rfl rfl ty3 <| stw 0 _ [pt (0 : Int), pt ([] : Str), p1 (.slice none 0 0), pt (⟨0⟩ : F64), pt (⟨0⟩ : F64), pt (0 : UInt64), pt (zarr : (Arr UInt8 32))] rfl rfl rfl rfl ty76 ⟨keepI [1, 2, 3, 4] rfl, ?_⟩
      refine agi rfl <| agi rfl <| jt <| c_ret ?_
      exact j_d (own0 := []) (ro0 := [tPow10 9, tDb64 11]) (.inl rfl) rfl (hr3 Tryz.results32 (rvc (p := pa [pt (0 : Int), pt ([] : Str), p1 (.slice none 0 0), pt (⟨0⟩ : F64), pt (⟨0⟩ : F64), pt (0 : UInt64), pt (zarr : (Arr UInt8 32))]) 0 rfl rfl rfl ty76) (rvt (v := (.int _ _)) rfl) (rvt (v := (.int _ _)) rfl)) [0, 1, 2] [_, _, _] rfl (by kernel_rfl) rfl (.inr ⟨_, parse_place_f0 (by assumption) hdg3, rfl, rfl, rfl⟩)
    ·replace h6 := of_decide_eq_false h6
     refine csr <| scmp (a := (word s 0)) (b := ([114, 101, 97, 99, 116] : Str)) _ rfl rfl uy9 rfl <| agb rfl <| jt <| c_cond rfl (fun h8 => ?_) (fun h8 => ?_)
     ·replace h8 := of_decide_eq_true h8
      refine csr <| fad rfl uy76 rfl ty3.sz <| stp 2 0 _ (pt (4 : Int)) rfl rfl rfl rfl rfl rfl ty3 ⟨trivial, ?_⟩
      refine jsr <| mvp rfl <| cal (rdnum_ct b13 s ((word s 0).length) (by omega) (by omega) (4294967295 : UInt64) (by decide)) [1] [0, 2] [_, _] rfl rfl rfl (by kernel_rfl) (impl_cons (impl_at 0 rfl) impl_nil) rfl ?_; rintro _ _ _ (⟨nn9, nq9, hnm9, rfl, rfl, rfl⟩ | ⟨nn9, nq9, na9, hnm9, rfl, rfl, rfl⟩)
      ·have hnm9b := numR_next hnm9; refine ⟨trivial, ?_⟩
       refine fad rfl uy76 rfl ty72.sz <| stp 1 5 _ (pt nn9) rfl rfl rfl rfl rfl rfl ty72 ⟨trivial, ?_⟩
       refine jr <| mvp rfl <| cal (rdtext_ct b13 s nq9 (by omega) (by omega) 1 64 (by omega) (by omega)) [2] [0, 1] [_, _] rfl rfl rfl (by kernel_rfl) (impl_cons (impl_at 1 rfl) impl_nil) rfl ?_; rintro _ _ _ (⟨tt10, tq10, htx10, rfl, rfl, rfl⟩ | ⟨tt10, tq10, ta10, htx10, rfl, rfl, rfl⟩)
       ·have htx10b := textR_next htx10; refine ⟨trivial, ?_⟩
        refine fad rfl uy76 rfl ty9.sz <| stp 1 1 _ (pt tt10) rfl rfl rfl rfl rfl rfl ty9 ⟨trivial, ?_⟩
        refine jn <| e_in <| e_then <| c_seq <| csr <| mvp rfl <| nlc rfl <| fad rfl uy108 rfl ty3.sz <| ldp 2 2 _ rfl rfl rfl rfl ty3 <| cmp true rfl rfl rfl <| mvb rfl <| g_on rfl rfl rfl <| mvp rfl <| g_on rfl rfl rfl <| nlc rfl <| g_on rfl rfl rfl <| fad rfl uy108 rfl ty3.sz <| g_on rfl rfl rfl <| ldp 2 1 _ rfl rfl rfl rfl ty3 <| g_on rfl rfl rfl <| mvs rfl <| g_on rfl rfl rfl <| lenT (s := s) rfl uy9 <| g_on rfl rfl rfl <| cmp _ rfl rfl rfl <| pkt (.bool _) rfl rfl <| jt <| c_cond rfl (fun h9 => ?_) (fun h9 => ?_)
        ·replace h9 := ndt h9
         refine c_reg <| mvp rfl <| mvp rfl <| nlc rfl <| fad rfl uy108 rfl ty3.sz <| ldp 2 1 _ rfl rfl rfl rfl ty3 <| nlc rfl <| fad rfl uy108 rfl ty3.sz <| stp 2 2 _ (p1 (.int .i64 ((tq10 : Nat) : Int))) rfl rfl rfl rfl rfl rfl ty3 ⟨trivial, ?_⟩
         refine jt <| c_seq <| csr <| mvp rfl <| nlc rfl <| fad rfl uy108 rfl ty3.sz <| ldp 2 2 _ rfl rfl rfl rfl ty3 <| cmp true rfl rfl (by simp only [cmpV]; exact congrArg some (decide_eq_true (by omega))) <| jt <| c_true rfl <| c_seq <| c_dr [_, _, _, _] [] [(0, 0), (1, 0), (2, 0), (3, 0), (4, 0), (5, 1), (6, 0), (7, 0)] follows (by kernel_rfl) calm_body (keepS [1, 2, 3, 4] rfl) <| bld [pt (0 : Int), pt ([] : Str), p1 (.slice none 0 0), pt (⟨0⟩ : F64), pt (⟨0⟩ : F64), pt (0 : UInt64), pt (zarr : (Arr UInt8 32))] [] _ uy76 (lay76 _ uy76) z76 rfl rfl rfl <| mvp rfl <| nlc rfl <| fad rfl uy108 rfl ty3.sz <| ldp 1 2 _ rfl rfl rfl rfl ty3 <| stw 0 _ [pt (0 : Int), pt ([] : Str), p1 (.slice none 0 0), pt (⟨0⟩ : F64), pt (⟨0⟩ : F64), pt (0 : UInt64), pt (zarr : (Arr UInt8 32))] rfl rfl rfl rfl ty76 ⟨keepI [1, 2, 3, 4] rfl, ?_⟩
         refine agi rfl <| agi rfl <| jt <| c_ret ?_
         exact j_d (own0 := []) (ro0 := [tPow10 9, tDb64 11]) (.inl rfl) rfl (hr3 Tryz.results32 (rvc (p := pa [pt (0 : Int), pt ([] : Str), p1 (.slice none 0 0), pt (⟨0⟩ : F64), pt (⟨0⟩ : F64), pt (0 : UInt64), pt (zarr : (Arr UInt8 32))]) 0 rfl rfl rfl ty76) (rvt (v := (.int _ _)) rfl) (rvt (v := (.int _ _)) rfl)) [0, 1, 2] [_, _, _] rfl (by kernel_rfl) rfl (.inr ⟨_, parse_react_e (by assumption) hnm9 htx10 (by omega), rfl, rfl, rfl⟩)
        ·replace h9 := ndf h9
         refine c_skip <| e_then <| c_seq <| csr <| mvp rfl <| nlc rfl <| fad rfl uy108 rfl ty3.sz <| ldp 2 2 _ rfl rfl rfl rfl ty3 <| cmp false rfl rfl rfl <| jt <| c_false rfl <| c_skip <| e_then <| csr <| ldw 1 _ rfl rfl ty76 <| stw 0 _ [pt (4 : Int), pt tt10, p1 (.slice none 0 0), pt (⟨0⟩ : F64), pt (⟨0⟩ : F64), pt nn9, pt (zarr : (Arr UInt8 32))] rfl rfl rfl rfl ty76 ⟨trivial, ?_⟩
         refine agi rfl <| agi rfl <| jt <| c_ret <| e_addE ?_
         exact j_end (own0 := []) (ro0 := [tPow10 9, tDb64 11]) (.inl rfl) rfl (hr3 Tryz.results32 (rvc (p := pa [pt (4 : Int), pt tt10, p1 (.slice none 0 0), pt (⟨0⟩ : F64), pt (⟨0⟩ : F64), pt nn9, pt (zarr : (Arr UInt8 32))]) 0 rfl rfl rfl ty76) (rvt (v := (.int _ _)) rfl) (rvt (v := (.int _ _)) rfl)) [3] [0, 1, 2] [_] [_, _, _] [] _ rfl rfl (by kernel_rfl) rfl impl_nil (.inl ⟨(⟨(4 : Int), tt10, (⟨0⟩ : F64), (⟨0⟩ : F64), nn9, (zarr : (Arr UInt8 32))⟩ : Con), [], Ow.nil, _, (by have h := parse_react (by assumption) hnm9 htx10 (by omega); rw [UInt64.ofNat_toNat] at h; exact h), by simp, Ow.nil_ok, rfl, rfl, rfl⟩)
       ·refine ⟨trivial, ?_⟩
        refine fad rfl uy76 rfl ty9.sz <| stp 1 1 _ (pt tt10) rfl rfl rfl rfl rfl rfl ty9 ⟨trivial, ?_⟩
        refine jn <| e_in <| e_then <| c_seq <| csr <| mvp rfl <| nlc rfl <| fad rfl uy108 rfl ty3.sz <| ldp 2 2 _ rfl rfl rfl rfl ty3 <| cmp false rfl rfl (by simp only [cmpV]; exact congrArg some (decide_eq_false (by omega))) <| mvb rfl <| g_off rfl rfl rfl rfl <| g_off rfl rfl rfl rfl <| g_off rfl rfl rfl rfl <| g_off rfl rfl rfl rfl <| g_off rfl rfl rfl rfl <| g_off rfl rfl rfl rfl <| g_off rfl rfl rfl rfl <| pkf (.bool _) rfl rfl <| jt <| c_false rfl <| c_skip <| e_then <| c_seq <| csr <| mvp rfl <| nlc rfl <| fad rfl uy108 rfl ty3.sz <| ldp 2 2 _ rfl rfl rfl rfl ty3 <| cmp true rfl rfl (by simp only [cmpV]; exact congrArg some (decide_eq_true (by omega))) <| jt <| c_true rfl <| c_seq <| c_dr [_, _, _, _] [] [(0, 0), (1, 0), (2, 0), (3, 0), (4, 0), (5, 1), (6, 0), (7, 0)] follows (by kernel_rfl) calm_body (keepS [1, 2, 3, 4] rfl) <| bld [pt (0 : Int), pt ([] : Str), p1 (.slice none 0 0), pt (⟨0⟩ : F64), pt (⟨0⟩ : F64), pt (0 : UInt64), pt (zarr : (Arr UInt8 32))] [] _ uy76 (lay76 _ uy76) z76 rfl rfl rfl <| mvp rfl <| nlc rfl <| fad rfl uy108 rfl ty3.sz ?_
        refine ldp 1 2 _ rfl rfl rfl rfl ty3 <| stw 0 _ [pt (0 : Int), pt ([] : Str), p1 (.slice none 0 0), pt (⟨0⟩ : F64), pt (⟨0⟩ : F64), pt (0 : UInt64), pt (zarr : (Arr UInt8 32))] rfl rfl rfl rfl ty76 ⟨keepI [1, 2, 3, 4] rfl, ?_⟩
        refine agi rfl <| agi rfl <| jt <| c_ret ?_
        exact j_d (own0 := []) (ro0 := [tPow10 9, tDb64 11]) (.inl rfl) rfl (hr3 Tryz.results32 (rvc (p := pa [pt (0 : Int), pt ([] : Str), p1 (.slice none 0 0), pt (⟨0⟩ : F64), pt (⟨0⟩ : F64), pt (0 : UInt64), pt (zarr : (Arr UInt8 32))]) 0 rfl rfl rfl ty76) (rvt (v := (.int _ _)) rfl) (rvt (v := (.int _ _)) rfl)) [0, 1, 2] [_, _, _] rfl (by kernel_rfl) rfl (.inr ⟨_, parse_react_f1 (by assumption) hnm9 htx10, rfl, rfl, rfl⟩)
      ·refine ⟨trivial, ?_⟩
       refine fad rfl uy76 rfl ty72.sz <| stp 1 5 _ (pt nn9) rfl rfl rfl rfl rfl rfl ty72 ⟨trivial, ?_⟩
       refine jr <| mvp rfl <| cal (rdtext_bad b13 s na9 nq9 1 64) [2] [0, 1] [_, _] rfl rfl rfl (by kernel_rfl) impl_nil rfl ?_; rintro _ _ _ ⟨rfl, rfl, rfl⟩; refine ⟨trivial, ?_⟩
       refine fad rfl uy76 rfl ty9.sz <| stp 1 1 _ (pt ([] : Str)) rfl rfl rfl rfl rfl rfl ty9 ⟨trivial, ?_⟩
       refine jn <| e_in <| e_then <| c_seq <| csr <| mvp rfl <| nlc rfl <| fad rfl uy108 rfl ty3.sz <| ldp 2 2 _ rfl rfl rfl rfl ty3 <| cmp false rfl rfl (by simp only [cmpV]; exact congrArg some (decide_eq_false (by omega))) <| mvb rfl <| g_off rfl rfl rfl rfl <| g_off rfl rfl rfl rfl <| g_off rfl rfl rfl rfl <| g_off rfl rfl rfl rfl <| g_off rfl rfl rfl rfl <| g_off rfl rfl rfl rfl <| g_off rfl rfl rfl rfl <| pkf (.bool _) rfl rfl <| jt <| c_false rfl <| c_skip <| e_then <| c_seq <| csr <| mvp rfl <| nlc rfl <| fad rfl uy108 rfl ty3.sz <| ldp 2 2 _ rfl rfl rfl rfl ty3 <| cmp true rfl rfl (by simp only [cmpV]; exact congrArg some (decide_eq_true (by omega))) <| jt <| c_true rfl <| c_seq <| c_dr [_, _, _, _] [] [(0, 0), (1, 0), (2, 0), (3, 0), (4, 0), (5, 1), (6, 0), (7, 0)] follows (by kernel_rfl) calm_body (keepS [1, 2, 3, 4] rfl) <| bld [pt (0 : Int), pt ([] : Str), p1 (.slice none 0 0), pt (⟨0⟩ : F64), pt (⟨0⟩ : F64), pt (0 : UInt64), pt (zarr : (Arr UInt8 32))] [] _ uy76 (lay76 _ uy76) z76 rfl rfl rfl <| mvp rfl <| nlc rfl <| fad rfl uy108 rfl ty3.sz ?_
       refine ldp 1 2 _ rfl rfl rfl rfl ty3 <| stw 0 _ [pt (0 : Int), pt ([] : Str), p1 (.slice none 0 0), pt (⟨0⟩ : F64), pt (⟨0⟩ : F64), pt (0 : UInt64), pt (zarr : (Arr UInt8 32))] rfl rfl rfl rfl ty76 ⟨keepI [1, 2, 3, 4] rfl, ?_⟩
       refine agi rfl <| agi rfl <| jt <| c_ret ?_
       exact j_d (own0 := []) (ro0 := [tPow10 9, tDb64 11]) (.inl rfl) rfl (hr3 Tryz.results32 (rvc (p := pa [pt (0 : Int), pt ([] : Str), p1 (.slice none 0 0), pt (⟨0⟩ : F64), pt (⟨0⟩ : F64), pt (0 : UInt64), pt (zarr : (Arr UInt8 32))]) 0 rfl rfl rfl ty76) (rvt (v := (.int _ _)) rfl) (rvt (v := (.int _ _)) rfl)) [0, 1, 2] [_, _, _] rfl (by kernel_rfl) rfl (.inr ⟨_, parse_react_f0 (by assumption) hnm9, rfl, rfl, rfl⟩)
     ·replace h8 := of_decide_eq_false h8
      refine csr <| scmp (a := (word s 0)) (b := ([116, 105, 109, 101, 114] : Str)) _ rfl rfl uy9 rfl <| agb rfl <| jt <| c_cond rfl (fun h10 => ?_) (fun h10 => ?_)
      ·replace h10 := of_decide_eq_true h10
       refine csr <| fad rfl uy76 rfl ty3.sz <| stp 2 0 _ (pt (5 : Int)) rfl rfl rfl rfl rfl rfl ty3 ⟨trivial, ?_⟩
       refine jr <| mvp rfl <| cal (rdnum_ct b13 s ((word s 0).length) (by omega) (by omega) (31536000 : UInt64) (by decide)) [1] [0, 2] [_, _] rfl rfl rfl (by kernel_rfl) (impl_cons (impl_at 0 rfl) impl_nil) rfl ?_; rintro _ _ _ (⟨nn12, nq12, hnm12, rfl, rfl, rfl⟩ | ⟨nn12, nq12, na12, hnm12, rfl, rfl, rfl⟩)
       ·have hnm12b := numR_next hnm12; refine ⟨trivial, ?_⟩
        refine fad rfl uy76 rfl ty72.sz <| stp 1 5 _ (pt nn12) rfl rfl rfl rfl rfl rfl ty72 ⟨trivial, ?_⟩
        refine jn <| e_in <| e_then <| c_seq <| csr <| mvp rfl <| nlc rfl <| fad rfl uy108 rfl ty3.sz <| ldp 2 2 _ rfl rfl rfl rfl ty3 <| cmp true rfl rfl rfl <| mvb rfl <| g_on rfl rfl rfl <| mvp rfl <| g_on rfl rfl rfl <| nlc rfl <| g_on rfl rfl rfl <| fad rfl uy108 rfl ty3.sz <| g_on rfl rfl rfl <| ldp 2 1 _ rfl rfl rfl rfl ty3 <| g_on rfl rfl rfl <| mvs rfl <| g_on rfl rfl rfl <| lenT (s := s) rfl uy9 <| g_on rfl rfl rfl <| cmp _ rfl rfl rfl <| pkt (.bool _) rfl rfl <| jt <| c_cond rfl (fun h11 => ?_) (fun h11 => ?_)
        ·replace h11 := ndt h11
         refine c_reg <| mvp rfl <| mvp rfl <| nlc rfl <| fad rfl uy108 rfl ty3.sz <| ldp 2 1 _ rfl rfl rfl rfl ty3 <| nlc rfl <| fad rfl uy108 rfl ty3.sz <| stp 2 2 _ (p1 (.int .i64 ((nq12 : Nat) : Int))) rfl rfl rfl rfl rfl rfl ty3 ⟨trivial, ?_⟩
         refine jt <| c_seq <| csr <| mvp rfl <| nlc rfl <| fad rfl uy108 rfl ty3.sz <| ldp 2 2 _ rfl rfl rfl rfl ty3 <| cmp true rfl rfl (by simp only [cmpV]; exact congrArg some (decide_eq_true (by omega))) <| jt <| c_true rfl <| c_seq <| c_dr [_, _, _, _] [] [(0, 0), (1, 0), (2, 0), (3, 0), (4, 0), (5, 1), (6, 0), (7, 0)] follows (by kernel_rfl) calm_body (keepS [1, 2, 3, 4] rfl) <| bld [pt (0 : Int), pt ([] : Str), p1 (.slice none 0 0), pt (⟨0⟩ : F64), pt (⟨0⟩ : F64), pt (0 : UInt64), pt (zarr : (Arr UInt8 32))] [] _ uy76 (lay76 _ uy76) z76 rfl rfl rfl <| mvp rfl <| nlc rfl <| fad rfl uy108 rfl ty3.sz <| ldp 1 2 _ rfl rfl rfl rfl ty3 <| stw 0 _ [pt (0 : Int), pt ([] : Str), p1 (.slice none 0 0), pt (⟨0⟩ : F64), pt (⟨0⟩ : F64), pt (0 : UInt64), pt (zarr : (Arr UInt8 32))] rfl rfl rfl rfl ty76 ⟨keepI [1, 2, 3, 4] rfl, ?_⟩
         refine agi rfl <| agi rfl <| jt <| c_ret ?_
         exact j_d (own0 := []) (ro0 := [tPow10 9, tDb64 11]) (.inl rfl) rfl (hr3 Tryz.results32 (rvc (p := pa [pt (0 : Int), pt ([] : Str), p1 (.slice none 0 0), pt (⟨0⟩ : F64), pt (⟨0⟩ : F64), pt (0 : UInt64), pt (zarr : (Arr UInt8 32))]) 0 rfl rfl rfl ty76) (rvt (v := (.int _ _)) rfl) (rvt (v := (.int _ _)) rfl)) [0, 1, 2] [_, _, _] rfl (by kernel_rfl) rfl (.inr ⟨_, parse_timer_e (by assumption) hnm12 (by omega), rfl, rfl, rfl⟩)
        ·replace h11 := ndf h11
         refine c_skip <| e_then <| c_seq <| csr <| mvp rfl <| nlc rfl <| fad rfl uy108 rfl ty3.sz <| ldp 2 2 _ rfl rfl rfl rfl ty3 <| cmp false rfl rfl rfl <| jt <| c_false rfl <| c_skip <| e_then <| csr <| ldw 1 _ rfl rfl ty76 <| stw 0 _ [pt (5 : Int), pt ([] : Str), p1 (.slice none 0 0), pt (⟨0⟩ : F64), pt (⟨0⟩ : F64), pt nn12, pt (zarr : (Arr UInt8 32))] rfl rfl rfl rfl ty76 ⟨trivial, ?_⟩
         refine agi rfl <| agi rfl <| jt <| c_ret <| e_addE ?_
         exact j_end (own0 := []) (ro0 := [tPow10 9, tDb64 11]) (.inl rfl) rfl (hr3 Tryz.results32 (rvc (p := pa [pt (5 : Int), pt ([] : Str), p1 (.slice none 0 0), pt (⟨0⟩ : F64), pt (⟨0⟩ : F64), pt nn12, pt (zarr : (Arr UInt8 32))]) 0 rfl rfl rfl ty76) (rvt (v := (.int _ _)) rfl) (rvt (v := (.int _ _)) rfl)) [3] [0, 1, 2] [_] [_, _, _] [] _ rfl rfl (by kernel_rfl) rfl impl_nil (.inl ⟨(⟨(5 : Int), ([] : Str), (⟨0⟩ : F64), (⟨0⟩ : F64), nn12, (zarr : (Arr UInt8 32))⟩ : Con), [], Ow.nil, _, (by have h := parse_timer (by assumption) hnm12 (by omega); rw [UInt64.ofNat_toNat] at h; exact h), by simp, Ow.nil_ok, rfl, rfl, rfl⟩)
       ·refine ⟨trivial, ?_⟩
        refine fad rfl uy76 rfl ty72.sz <| stp 1 5 _ (pt nn12) rfl rfl rfl rfl rfl rfl ty72 ⟨trivial, ?_⟩
        refine jn <| e_in <| e_then <| c_seq <| csr <| mvp rfl <| nlc rfl <| fad rfl uy108 rfl ty3.sz <| ldp 2 2 _ rfl rfl rfl rfl ty3 <| cmp false rfl rfl (by simp only [cmpV]; exact congrArg some (decide_eq_false (by omega))) <| mvb rfl <| g_off rfl rfl rfl rfl <| g_off rfl rfl rfl rfl <| g_off rfl rfl rfl rfl <| g_off rfl rfl rfl rfl <| g_off rfl rfl rfl rfl <| g_off rfl rfl rfl rfl <| g_off rfl rfl rfl rfl <| pkf (.bool _) rfl rfl <| jt <| c_false rfl <| c_skip <| e_then <| c_seq <| csr <| mvp rfl <| nlc rfl <| fad rfl uy108 rfl ty3.sz <| ldp 2 2 _ rfl rfl rfl rfl ty3 <| cmp true rfl rfl (by simp only [cmpV]; exact congrArg some (decide_eq_true (by omega))) <| jt <| c_true rfl <| c_seq <| c_dr [_, _, _, _] [] [(0, 0), (1, 0), (2, 0), (3, 0), (4, 0), (5, 1), (6, 0), (7, 0)] follows (by kernel_rfl) calm_body (keepS [1, 2, 3, 4] rfl) <| bld [pt (0 : Int), pt ([] : Str), p1 (.slice none 0 0), pt (⟨0⟩ : F64), pt (⟨0⟩ : F64), pt (0 : UInt64), pt (zarr : (Arr UInt8 32))] [] _ uy76 (lay76 _ uy76) z76 rfl rfl rfl <| mvp rfl <| nlc rfl <| fad rfl uy108 rfl ty3.sz ?_
        refine ldp 1 2 _ rfl rfl rfl rfl ty3 <| stw 0 _ [pt (0 : Int), pt ([] : Str), p1 (.slice none 0 0), pt (⟨0⟩ : F64), pt (⟨0⟩ : F64), pt (0 : UInt64), pt (zarr : (Arr UInt8 32))] rfl rfl rfl rfl ty76 ⟨keepI [1, 2, 3, 4] rfl, ?_⟩
        refine agi rfl <| agi rfl <| jt <| c_ret ?_
        exact j_d (own0 := []) (ro0 := [tPow10 9, tDb64 11]) (.inl rfl) rfl (hr3 Tryz.results32 (rvc (p := pa [pt (0 : Int), pt ([] : Str), p1 (.slice none 0 0), pt (⟨0⟩ : F64), pt (⟨0⟩ : F64), pt (0 : UInt64), pt (zarr : (Arr UInt8 32))]) 0 rfl rfl rfl ty76) (rvt (v := (.int _ _)) rfl) (rvt (v := (.int _ _)) rfl)) [0, 1, 2] [_, _, _] rfl (by kernel_rfl) rfl (.inr ⟨_, parse_timer_f0 (by assumption) hnm12, rfl, rfl, rfl⟩)
      ·replace h10 := of_decide_eq_false h10
       refine csr <| scmp (a := (word s 0)) (b := ([102, 105, 108, 101] : Str)) _ rfl rfl uy9 rfl <| agb rfl <| jt <| c_cond rfl (fun h12 => ?_) (fun h12 => ?_)
       ·replace h12 := of_decide_eq_true h12
        refine csr <| fad rfl uy76 rfl ty3.sz <| stp 2 0 _ (pt (6 : Int)) rfl rfl rfl rfl rfl rfl ty3 ⟨trivial, ?_⟩
        refine jsr <| mvp rfl <| cal (rdtext_ct b13 s ((word s 0).length) (by omega) (by omega) 1 255 (by omega) (by omega)) [1] [0, 2] [_, _] rfl rfl rfl (by kernel_rfl) (impl_cons (impl_at 1 rfl) impl_nil) rfl ?_; rintro _ _ _ (⟨tt13, tq13, htx13, rfl, rfl, rfl⟩ | ⟨tt13, tq13, ta13, htx13, rfl, rfl, rfl⟩)
        ·have htx13b := textR_next htx13; refine ⟨trivial, ?_⟩
         refine fad rfl uy76 rfl ty9.sz <| stp 1 1 _ (pt tt13) rfl rfl rfl rfl rfl rfl ty9 ⟨trivial, ?_⟩
         refine jsr <| mvp rfl <| cal (rdnum_ct b13 s tq13 (by omega) (by omega) (1099511627776 : UInt64) (by decide)) [2] [0, 1] [_, _] rfl rfl rfl (by kernel_rfl) (impl_cons (impl_at 0 rfl) impl_nil) rfl ?_; rintro _ _ _ (⟨nn14, nq14, hnm14, rfl, rfl, rfl⟩ | ⟨nn14, nq14, na14, hnm14, rfl, rfl, rfl⟩)
         ·have hnm14b := numR_next hnm14; refine ⟨trivial, ?_⟩
          refine fad rfl uy76 rfl ty72.sz <| stp 1 5 _ (pt nn14) rfl rfl rfl rfl rfl rfl ty72 ⟨trivial, ?_⟩
          refine jr <| mvp rfl <| cal (rdkey_ct b13 s nq14 (by omega) (by omega)) [2] [0, 1] [_, _] rfl rfl rfl (by kernel_rfl) impl_nil rfl ?_; rintro _ _ _ (⟨_, kq15, ⟨kw15, hby15, rfl⟩, rfl, rfl, rfl⟩ | ⟨kk15, kq15, ka15, hby15, rfl, rfl, rfl⟩)
          ·have hby15b := hexR_next hby15; refine ⟨trivial, ?_⟩
           refine fad rfl uy76 rfl ty74.sz <| stp 1 6 _ (pt (mkKey (hexb kw15 32))) rfl rfl rfl rfl rfl rfl ty74 ⟨trivial, ?_⟩
           refine jn <| e_in <| e_then <| c_seq <| csr <| mvp rfl <| nlc rfl <| fad rfl uy108 rfl ty3.sz <| ldp 2 2 _ rfl rfl rfl rfl ty3 <| cmp true rfl rfl rfl <| mvb rfl <| g_on rfl rfl rfl <| mvp rfl <| g_on rfl rfl rfl <| nlc rfl <| g_on rfl rfl rfl <| fad rfl uy108 rfl ty3.sz <| g_on rfl rfl rfl <| ldp 2 1 _ rfl rfl rfl rfl ty3 <| g_on rfl rfl rfl <| mvs rfl <| g_on rfl rfl rfl <| lenT (s := s) rfl uy9 <| g_on rfl rfl rfl <| cmp _ rfl rfl rfl <| pkt (.bool _) rfl rfl <| jt <| c_cond rfl (fun h13 => ?_) (fun h13 => ?_)
           ·replace h13 := ndt h13
            refine c_reg <| mvp rfl <| mvp rfl <| nlc rfl <| fad rfl uy108 rfl ty3.sz <| ldp 2 1 _ rfl rfl rfl rfl ty3 <| nlc rfl <| fad rfl uy108 rfl ty3.sz <| stp 2 2 _ (p1 (.int .i64 ((kq15 : Nat) : Int))) rfl rfl rfl rfl rfl rfl ty3 ⟨trivial, ?_⟩
            refine jt <| c_seq <| csr <| mvp rfl <| nlc rfl <| fad rfl uy108 rfl ty3.sz <| ldp 2 2 _ rfl rfl rfl rfl ty3 <| cmp true rfl rfl (by simp only [cmpV]; exact congrArg some (decide_eq_true (by omega))) <| jt <| c_true rfl <| c_seq <| c_dr [_, _, _, _] [] [(0, 0), (1, 0), (2, 0), (3, 0), (4, 0), (5, 1), (6, 0), (7, 0)] follows (by kernel_rfl) calm_body (keepS [1, 2, 3, 4] rfl) <| bld [pt (0 : Int), pt ([] : Str), p1 (.slice none 0 0), pt (⟨0⟩ : F64), pt (⟨0⟩ : F64), pt (0 : UInt64), pt (zarr : (Arr UInt8 32))] [] _ uy76 (lay76 _ uy76) z76 rfl rfl rfl <| mvp rfl <| nlc rfl <| fad rfl uy108 rfl ty3.sz <| ldp 1 2 _ rfl rfl rfl rfl ty3 <| stw 0 _ [pt (0 : Int), pt ([] : Str), p1 (.slice none 0 0), pt (⟨0⟩ : F64), pt (⟨0⟩ : F64), pt (0 : UInt64), pt (zarr : (Arr UInt8 32))] rfl rfl rfl rfl ty76 ⟨keepI [1, 2, 3, 4] rfl, ?_⟩
            refine agi rfl <| agi rfl <| jt <| c_ret ?_
            exact j_d (own0 := []) (ro0 := [tPow10 9, tDb64 11]) (.inl rfl) rfl (hr3 Tryz.results32 (rvc (p := pa [pt (0 : Int), pt ([] : Str), p1 (.slice none 0 0), pt (⟨0⟩ : F64), pt (⟨0⟩ : F64), pt (0 : UInt64), pt (zarr : (Arr UInt8 32))]) 0 rfl rfl rfl ty76) (rvt (v := (.int _ _)) rfl) (rvt (v := (.int _ _)) rfl)) [0, 1, 2] [_, _, _] rfl (by kernel_rfl) rfl (.inr ⟨_, parse_file_e (by assumption) htx13 hnm14 hby15 (by omega), rfl, rfl, rfl⟩)
           ·replace h13 := ndf h13
            refine c_skip <| e_then <| c_seq <| csr <| mvp rfl <| nlc rfl <| fad rfl uy108 rfl ty3.sz <| ldp 2 2 _ rfl rfl rfl rfl ty3 <| cmp false rfl rfl rfl <| jt <| c_false rfl <| c_skip <| e_then <| csr <| ldw 1 _ rfl rfl ty76 <| stw 0 _ [pt (6 : Int), pt tt13, p1 (.slice none 0 0), pt (⟨0⟩ : F64), pt (⟨0⟩ : F64), pt nn14, pt (mkKey (hexb kw15 32))] rfl rfl rfl rfl ty76 ⟨trivial, ?_⟩
            refine agi rfl <| agi rfl <| jt <| c_ret <| e_addE ?_
            exact j_end (own0 := []) (ro0 := [tPow10 9, tDb64 11]) (.inl rfl) rfl (hr3 Tryz.results32 (rvc (p := pa [pt (6 : Int), pt tt13, p1 (.slice none 0 0), pt (⟨0⟩ : F64), pt (⟨0⟩ : F64), pt nn14, pt (mkKey (hexb kw15 32))]) 0 rfl rfl rfl ty76) (rvt (v := (.int _ _)) rfl) (rvt (v := (.int _ _)) rfl)) [3] [0, 1, 2] [_] [_, _, _] [] _ rfl rfl (by kernel_rfl) rfl impl_nil (.inl ⟨(⟨(6 : Int), tt13, (⟨0⟩ : F64), (⟨0⟩ : F64), nn14, (mkKey (hexb kw15 32))⟩ : Con), [], Ow.nil, _, (by have h := parse_file (by assumption) htx13 hnm14 hby15 (by omega); rw [UInt64.ofNat_toNat] at h; exact h), by simp, Ow.nil_ok, rfl, rfl, rfl⟩)
          ·refine ⟨trivial, ?_⟩
           refine fad rfl uy76 rfl ty74.sz <| stp 1 6 _ (pt kk15) rfl rfl rfl rfl rfl rfl ty74 ⟨trivial, ?_⟩
           refine jn <| e_in <| e_then <| c_seq <| csr <| mvp rfl <| nlc rfl <| fad rfl uy108 rfl ty3.sz <| ldp 2 2 _ rfl rfl rfl rfl ty3 <| cmp false rfl rfl (by simp only [cmpV]; exact congrArg some (decide_eq_false (by omega))) <| mvb rfl <| g_off rfl rfl rfl rfl <| g_off rfl rfl rfl rfl <| g_off rfl rfl rfl rfl <| g_off rfl rfl rfl rfl <| g_off rfl rfl rfl rfl <| g_off rfl rfl rfl rfl <| g_off rfl rfl rfl rfl <| pkf (.bool _) rfl rfl <| jt <| c_false rfl <| c_skip <| e_then <| c_seq <| csr <| mvp rfl <| nlc rfl <| fad rfl uy108 rfl ty3.sz <| ldp 2 2 _ rfl rfl rfl rfl ty3 <| cmp true rfl rfl (by simp only [cmpV]; exact congrArg some (decide_eq_true (by omega))) <| jt <| c_true rfl <| c_seq <| c_dr [_, _, _, _] [] [(0, 0), (1, 0), (2, 0), (3, 0), (4, 0), (5, 1), (6, 0), (7, 0)] follows (by kernel_rfl) calm_body (keepS [1, 2, 3, 4] rfl) <| bld [pt (0 : Int), pt ([] : Str), p1 (.slice none 0 0), pt (⟨0⟩ : F64), pt (⟨0⟩ : F64), pt (0 : UInt64), pt (zarr : (Arr UInt8 32))] [] _ uy76 (lay76 _ uy76) z76 rfl rfl rfl <| mvp rfl <| nlc rfl <| fad rfl uy108 rfl ty3.sz ?_
           refine ldp 1 2 _ rfl rfl rfl rfl ty3 <| stw 0 _ [pt (0 : Int), pt ([] : Str), p1 (.slice none 0 0), pt (⟨0⟩ : F64), pt (⟨0⟩ : F64), pt (0 : UInt64), pt (zarr : (Arr UInt8 32))] rfl rfl rfl rfl ty76 ⟨keepI [1, 2, 3, 4] rfl, ?_⟩
           refine agi rfl <| agi rfl <| jt <| c_ret ?_
           exact j_d (own0 := []) (ro0 := [tPow10 9, tDb64 11]) (.inl rfl) rfl (hr3 Tryz.results32 (rvc (p := pa [pt (0 : Int), pt ([] : Str), p1 (.slice none 0 0), pt (⟨0⟩ : F64), pt (⟨0⟩ : F64), pt (0 : UInt64), pt (zarr : (Arr UInt8 32))]) 0 rfl rfl rfl ty76) (rvt (v := (.int _ _)) rfl) (rvt (v := (.int _ _)) rfl)) [0, 1, 2] [_, _, _] rfl (by kernel_rfl) rfl (.inr ⟨_, parse_file_f2 (by assumption) htx13 hnm14 hby15, rfl, rfl, rfl⟩)
         ·refine ⟨trivial, ?_⟩
          refine fad rfl uy76 rfl ty72.sz <| stp 1 5 _ (pt nn14) rfl rfl rfl rfl rfl rfl ty72 ⟨trivial, ?_⟩
          refine jr <| mvp rfl <| cal (rdkey_bad b13 s na14 nq14) [2] [0, 1] [_, _] rfl rfl rfl (by kernel_rfl) impl_nil rfl ?_; rintro _ _ _ ⟨rfl, rfl, rfl⟩; refine ⟨trivial, ?_⟩
          refine fad rfl uy76 rfl ty74.sz <| stp 1 6 _ (pt (zarr : Key)) rfl rfl rfl rfl rfl rfl ty74 ⟨trivial, ?_⟩
          refine jn <| e_in <| e_then <| c_seq <| csr <| mvp rfl <| nlc rfl <| fad rfl uy108 rfl ty3.sz <| ldp 2 2 _ rfl rfl rfl rfl ty3 <| cmp false rfl rfl (by simp only [cmpV]; exact congrArg some (decide_eq_false (by omega))) <| mvb rfl <| g_off rfl rfl rfl rfl <| g_off rfl rfl rfl rfl <| g_off rfl rfl rfl rfl <| g_off rfl rfl rfl rfl <| g_off rfl rfl rfl rfl <| g_off rfl rfl rfl rfl <| g_off rfl rfl rfl rfl <| pkf (.bool _) rfl rfl <| jt <| c_false rfl <| c_skip <| e_then <| c_seq <| csr <| mvp rfl <| nlc rfl <| fad rfl uy108 rfl ty3.sz <| ldp 2 2 _ rfl rfl rfl rfl ty3 <| cmp true rfl rfl (by simp only [cmpV]; exact congrArg some (decide_eq_true (by omega))) <| jt <| c_true rfl <| c_seq <| c_dr [_, _, _, _] [] [(0, 0), (1, 0), (2, 0), (3, 0), (4, 0), (5, 1), (6, 0), (7, 0)] follows (by kernel_rfl) calm_body (keepS [1, 2, 3, 4] rfl) <| bld [pt (0 : Int), pt ([] : Str), p1 (.slice none 0 0), pt (⟨0⟩ : F64), pt (⟨0⟩ : F64), pt (0 : UInt64), pt (zarr : (Arr UInt8 32))] [] _ uy76 (lay76 _ uy76) z76 rfl rfl rfl <| mvp rfl <| nlc rfl <| fad rfl uy108 rfl ty3.sz ?_
          refine ldp 1 2 _ rfl rfl rfl rfl ty3 <| stw 0 _ [pt (0 : Int), pt ([] : Str), p1 (.slice none 0 0), pt (⟨0⟩ : F64), pt (⟨0⟩ : F64), pt (0 : UInt64), pt (zarr : (Arr UInt8 32))] rfl rfl rfl rfl ty76 ⟨keepI [1, 2, 3, 4] rfl, ?_⟩
          refine agi rfl <| agi rfl <| jt <| c_ret ?_
          exact j_d (own0 := []) (ro0 := [tPow10 9, tDb64 11]) (.inl rfl) rfl (hr3 Tryz.results32 (rvc (p := pa [pt (0 : Int), pt ([] : Str), p1 (.slice none 0 0), pt (⟨0⟩ : F64), pt (⟨0⟩ : F64), pt (0 : UInt64), pt (zarr : (Arr UInt8 32))]) 0 rfl rfl rfl ty76) (rvt (v := (.int _ _)) rfl) (rvt (v := (.int _ _)) rfl)) [0, 1, 2] [_, _, _] rfl (by kernel_rfl) rfl (.inr ⟨_, parse_file_f1 (by assumption) htx13 hnm14, rfl, rfl, rfl⟩)
        ·refine ⟨trivial, ?_⟩
         refine fad rfl uy76 rfl ty9.sz <| stp 1 1 _ (pt tt13) rfl rfl rfl rfl rfl rfl ty9 ⟨trivial, ?_⟩
         refine jsr <| mvp rfl <| cal (rdnum_bad b13 s ta13 tq13 (1099511627776 : UInt64)) [2] [0, 1] [_, _] rfl rfl rfl (by kernel_rfl) impl_nil rfl ?_; rintro _ _ _ ⟨rfl, rfl, rfl⟩; refine ⟨trivial, ?_⟩
         refine fad rfl uy76 rfl ty72.sz <| stp 1 5 _ (pt (0 : UInt64)) rfl rfl rfl rfl rfl rfl ty72 ⟨trivial, ?_⟩
         refine jr <| mvp rfl <| cal (rdkey_bad b13 s ta13 tq13) [2] [0, 1] [_, _] rfl rfl rfl (by kernel_rfl) impl_nil rfl ?_; rintro _ _ _ ⟨rfl, rfl, rfl⟩; refine ⟨trivial, ?_⟩
         refine fad rfl uy76 rfl ty74.sz <| stp 1 6 _ (pt (zarr : Key)) rfl rfl rfl rfl rfl rfl ty74 ⟨trivial, ?_⟩
         refine jn <| e_in <| e_then <| c_seq <| csr <| mvp rfl <| nlc rfl <| fad rfl uy108 rfl ty3.sz <| ldp 2 2 _ rfl rfl rfl rfl ty3 <| cmp false rfl rfl (by simp only [cmpV]; exact congrArg some (decide_eq_false (by omega))) <| mvb rfl <| g_off rfl rfl rfl rfl <| g_off rfl rfl rfl rfl <| g_off rfl rfl rfl rfl <| g_off rfl rfl rfl rfl <| g_off rfl rfl rfl rfl <| g_off rfl rfl rfl rfl <| g_off rfl rfl rfl rfl <| pkf (.bool _) rfl rfl <| jt <| c_false rfl <| c_skip <| e_then <| c_seq <| csr <| mvp rfl <| nlc rfl <| fad rfl uy108 rfl ty3.sz <| ldp 2 2 _ rfl rfl rfl rfl ty3 <| cmp true rfl rfl (by simp only [cmpV]; exact congrArg some (decide_eq_true (by omega))) <| jt <| c_true rfl <| c_seq <| c_dr [_, _, _, _] [] [(0, 0), (1, 0), (2, 0), (3, 0), (4, 0), (5, 1), (6, 0), (7, 0)] follows (by kernel_rfl) calm_body (keepS [1, 2, 3, 4] rfl) <| bld [pt (0 : Int), pt ([] : Str), p1 (.slice none 0 0), pt (⟨0⟩ : F64), pt (⟨0⟩ : F64), pt (0 : UInt64), pt (zarr : (Arr UInt8 32))] [] _ uy76 (lay76 _ uy76) z76 rfl rfl rfl <| mvp rfl <| nlc rfl <| fad rfl uy108 rfl ty3.sz ?_
         refine ldp 1 2 _ rfl rfl rfl rfl ty3 <| stw 0 _ [pt (0 : Int), pt ([] : Str), p1 (.slice none 0 0), pt (⟨0⟩ : F64), pt (⟨0⟩ : F64), pt (0 : UInt64), pt (zarr : (Arr UInt8 32))] rfl rfl rfl rfl ty76 ⟨keepI [1, 2, 3, 4] rfl, ?_⟩
         refine agi rfl <| agi rfl <| jt <| c_ret ?_
         exact j_d (own0 := []) (ro0 := [tPow10 9, tDb64 11]) (.inl rfl) rfl (hr3 Tryz.results32 (rvc (p := pa [pt (0 : Int), pt ([] : Str), p1 (.slice none 0 0), pt (⟨0⟩ : F64), pt (⟨0⟩ : F64), pt (0 : UInt64), pt (zarr : (Arr UInt8 32))]) 0 rfl rfl rfl ty76) (rvt (v := (.int _ _)) rfl) (rvt (v := (.int _ _)) rfl)) [0, 1, 2] [_, _, _] rfl (by kernel_rfl) rfl (.inr ⟨_, parse_file_f0 (by assumption) htx13, rfl, rfl, rfl⟩)
       ·replace h12 := of_decide_eq_false h12
        refine c_reg <| mvp rfl <| nlc rfl <| fad rfl uy108 rfl ty3.sz <| stp 1 2 _ (pt (0 : Int)) rfl rfl rfl rfl rfl rfl ty3 ⟨trivial, ?_⟩
        refine jn <| e_in <| e_then <| c_seq <| csr <| mvp rfl <| nlc rfl <| fad rfl uy108 rfl ty3.sz <| ldp 1 2 _ rfl rfl rfl rfl ty3 <| cmp false rfl rfl rfl <| mvb rfl <| g_off rfl rfl rfl rfl <| g_off rfl rfl rfl rfl <| g_off rfl rfl rfl rfl <| g_off rfl rfl rfl rfl <| g_off rfl rfl rfl rfl <| g_off rfl rfl rfl rfl <| g_off rfl rfl rfl rfl <| pkf (.bool _) rfl rfl <| jt <| c_false rfl <| c_skip <| e_then <| c_seq <| csr <| mvp rfl <| nlc rfl <| fad rfl uy108 rfl ty3.sz <| ldp 1 2 _ rfl rfl rfl rfl ty3 <| cmp true rfl rfl rfl <| jt <| c_true rfl <| c_seq <| c_dr [_, _, _, _] [] [(0, 0), (1, 0), (2, 0), (3, 0), (4, 0), (5, 1), (6, 0), (7, 0)] follows (by kernel_rfl) calm_body (keepS [1, 2, 3, 4] rfl) <| bld [pt (0 : Int), pt ([] : Str), p1 (.slice none 0 0), pt (⟨0⟩ : F64), pt (⟨0⟩ : F64), pt (0 : UInt64), pt (zarr : (Arr UInt8 32))] [] _ uy76 (lay76 _ uy76) z76 rfl rfl rfl <| mvp rfl <| nlc rfl <| fad rfl uy108 rfl ty3.sz ?_
        refine ldp 0 2 _ rfl rfl rfl rfl ty3 <| stw 0 _ [pt (0 : Int), pt ([] : Str), p1 (.slice none 0 0), pt (⟨0⟩ : F64), pt (⟨0⟩ : F64), pt (0 : UInt64), pt (zarr : (Arr UInt8 32))] rfl rfl rfl rfl ty76 ⟨keepI [1, 2, 3, 4] rfl, ?_⟩
        refine agi rfl <| agi rfl <| jt <| c_ret ?_
        exact j_d (own0 := []) (ro0 := [tPow10 9, tDb64 11]) (.inl rfl) rfl (hr3 Tryz.results32 (rvc (p := pa [pt (0 : Int), pt ([] : Str), p1 (.slice none 0 0), pt (⟨0⟩ : F64), pt (⟨0⟩ : F64), pt (0 : UInt64), pt (zarr : (Arr UInt8 32))]) 0 rfl rfl rfl ty76) (rvt (v := (.int _ _)) rfl) (rvt (v := (.int _ _)) rfl)) [0, 1, 2] [_, _, _] rfl (by kernel_rfl) rfl (.inr ⟨0, parse_none (by first | assumption | contradiction) (by first | assumption | contradiction) (by first | assumption | contradiction) (by first | assumption | contradiction) (by first | assumption | contradiction) (by first | assumption | contradiction) (by first | assumption | contradiction), rfl, rfl, rfl⟩)
  ·replace h3 := of_decide_eq_false h3
   refine c_reg <| scmp (a := (word s 0)) (b := ([114, 101, 97, 100] : Str)) _ rfl rfl uy9 rfl <| agb rfl <| jt <| c_cond rfl (fun h14 => ?_) (fun h14 => ?_)
   ·replace h14 := of_decide_eq_true h14
    refine csr <| fad rfl uy76 rfl ty3.sz <| stp 2 0 _ (pt (2 : Int)) rfl rfl rfl rfl rfl rfl ty3 ⟨trivial, ?_⟩
    refine fad rfl uy76 rfl ty72.sz <| stp 2 5 _ (pt (1 : UInt64)) rfl rfl rfl rfl rfl rfl ty72 ⟨trivial, ?_⟩
    refine jt <| c_seq <| csr <| mvs rfl <| mvi rfl <| cutT (s := s) 0 ((word s 0).length) rfl uy9 rfl ⟨_, rfl⟩ (by first | omega | (simp; done) | (simp; omega)) (by first | omega | (simp; done) | (simp; omega)) (List.take ((word s 0).length) s) (cut_lo _ _) <| j_re 34 (strV (word s 0)) (congrArg strV (take_word0 s)) <| scmp (a := (word s 0)) (b := ([114, 101, 97, 100] : Str)) _ rfl rfl uy9 rfl <| j_re 35 (.bool true) (congrArg Value.bool (decide_eq_true (show word s 0 = [114, 101, 97, 100] by assumption))) <| jt <| c_true rfl <| c_reg <| fad rfl uy76 rfl ty72.sz <| stp 2 5 _ (pt (2 : UInt64)) rfl rfl rfl rfl rfl rfl ty72 ⟨trivial, ?_⟩
    refine jr <| mvp rfl <| cal (rdmarks_ct b13 s ((word s 0).length) (by omega) (by omega)) [1] [0, 2] [_, _] rfl rfl rfl (by kernel_rfl) (impl_cons (impl_at 0 rfl) impl_nil) rfl ?_; rintro _ _ _ (⟨mo19, mm19, mq19, hmk19, hmk19b, hmk19o, rfl, rfl, rfl⟩ | ⟨mo19, mm19, mq19, ma19, hmk19, hmk19b, hmk19o, rfl, rfl, rfl⟩)
    ·refine ⟨trivial, ?_⟩
     refine fad rfl uy76 rfl ty70.sz <| stp 1 2 _ (p1 (.slice mo19.adr mm19.length mo19.cap)) rfl rfl rfl rfl rfl rfl ty70 ⟨trivial, ?_⟩
     refine jn <| e_in <| e_then <| c_seq <| csr <| mvp rfl <| nlc rfl <| fad rfl uy108 rfl ty3.sz <| ldp 2 2 _ rfl rfl rfl rfl ty3 <| cmp true rfl rfl rfl <| mvb rfl <| g_on rfl rfl rfl <| mvp rfl <| g_on rfl rfl rfl <| nlc rfl <| g_on rfl rfl rfl <| fad rfl uy108 rfl ty3.sz <| g_on rfl rfl rfl <| ldp 2 1 _ rfl rfl rfl rfl ty3 <| g_on rfl rfl rfl <| mvs rfl <| g_on rfl rfl rfl <| lenT (s := s) rfl uy9 <| g_on rfl rfl rfl <| cmp _ rfl rfl rfl <| pkt (.bool _) rfl rfl <| jt <| c_cond rfl (fun h15 => ?_) (fun h15 => ?_)
     ·replace h15 := ndt h15
      refine c_reg <| mvp rfl <| mvp rfl <| nlc rfl <| fad rfl uy108 rfl ty3.sz <| ldp 2 1 _ rfl rfl rfl rfl ty3 <| nlc rfl <| fad rfl uy108 rfl ty3.sz <| stp 2 2 _ (p1 (.int .i64 ((mq19 : Nat) : Int))) rfl rfl rfl rfl rfl rfl ty3 ⟨trivial, ?_⟩
      refine jt <| c_seq <| csr <| mvp rfl <| nlc rfl <| fad rfl uy108 rfl ty3.sz <| ldp 2 2 _ rfl rfl rfl rfl ty3 <| cmp true rfl rfl (by simp only [cmpV]; exact congrArg some (decide_eq_true (by omega))) <| jt <| c_true rfl <| c_seq <| c_dr [_, _, _, _, _] [] [(0, 0), (1, 0), (2, 0), (3, 0), (4, 0), (5, 1), (6, 0), (7, 0)] follows (by kernel_rfl) calm_body (keepS [1, 2, 3, 4, 5] rfl) <| bld [pt (0 : Int), pt ([] : Str), p1 (.slice none 0 0), pt (⟨0⟩ : F64), pt (⟨0⟩ : F64), pt (0 : UInt64), pt (zarr : (Arr UInt8 32))] [] _ uy76 (lay76 _ uy76) z76 rfl rfl rfl <| mvp rfl <| nlc rfl <| fad rfl uy108 rfl ty3.sz <| ldp 1 2 _ rfl rfl rfl rfl ty3 <| stw 0 _ [pt (0 : Int), pt ([] : Str), p1 (.slice none 0 0), pt (⟨0⟩ : F64), pt (⟨0⟩ : F64), pt (0 : UInt64), pt (zarr : (Arr UInt8 32))] rfl rfl rfl rfl ty76 ⟨keepI [1, 2, 3, 4, 5] rfl, ?_⟩
      refine agi rfl <| agi rfl <| jt <| c_ret ?_
      exact j_d (own0 := []) (ro0 := [tPow10 9, tDb64 11]) (.inl rfl) rfl (hr3 Tryz.results32 (rvc (p := pa [pt (0 : Int), pt ([] : Str), p1 (.slice none 0 0), pt (⟨0⟩ : F64), pt (⟨0⟩ : F64), pt (0 : UInt64), pt (zarr : (Arr UInt8 32))]) 0 rfl rfl rfl ty76) (rvt (v := (.int _ _)) rfl) (rvt (v := (.int _ _)) rfl)) [0, 1, 2, 3] [_, _, _, _] rfl (by kernel_rfl) rfl (.inr ⟨_, parse_read_e (by assumption) hmk19 (by omega), rfl, rfl, rfl⟩)
     ·replace h15 := ndf h15
      refine c_skip <| e_then <| c_seq <| csr <| mvp rfl <| nlc rfl <| fad rfl uy108 rfl ty3.sz <| ldp 2 2 _ rfl rfl rfl rfl ty3 <| cmp false rfl rfl rfl <| jt <| c_false rfl <| c_skip <| e_then <| csr <| ldw 1 _ rfl rfl ty76 <| stw 0 _ [pt (2 : Int), pt ([] : Str), p1 (.slice mo19.adr mm19.length mo19.cap), pt (⟨0⟩ : F64), pt (⟨0⟩ : F64), pt (2 : UInt64), pt (zarr : (Arr UInt8 32))] rfl rfl rfl rfl ty76 ⟨trivial, ?_⟩
      refine agi rfl <| agi rfl <| jt <| c_ret ?_
      exact j_end (own0 := []) (ro0 := [tPow10 9, tDb64 11]) (.inl rfl) rfl (hr3 Tryz.results32 (rvc (p := pa [pt (2 : Int), pt ([] : Str), p1 (.slice mo19.adr mm19.length mo19.cap), pt (⟨0⟩ : F64), pt (⟨0⟩ : F64), pt (2 : UInt64), pt (zarr : (Arr UInt8 32))]) 0 rfl rfl rfl ty76) (rvt (v := (.int _ _)) rfl) (rvt (v := (.int _ _)) rfl)) [3] [0, 1, 2] [_] [_, _, _] [] _ rfl rfl (by kernel_rfl) rfl impl_nil (.inl ⟨(⟨(2 : Int), ([] : Str), (⟨0⟩ : F64), (⟨0⟩ : F64), (2 : UInt64), (zarr : (Arr UInt8 32))⟩ : Con), mm19, mo19, _, (by have h := parse_read (by assumption) hmk19 (by omega); exact h), by omega, hmk19o, rfl, rfl, rfl⟩)
    ·refine ⟨trivial, ?_⟩
     refine fad rfl uy76 rfl ty70.sz <| stp 1 2 _ (p1 (.slice mo19.adr mm19.length mo19.cap)) rfl rfl rfl rfl rfl rfl ty70 ⟨trivial, ?_⟩
     refine jn <| e_in <| e_then <| c_seq <| csr <| mvp rfl <| nlc rfl <| fad rfl uy108 rfl ty3.sz <| ldp 2 2 _ rfl rfl rfl rfl ty3 <| cmp false rfl rfl (by simp only [cmpV]; exact congrArg some (decide_eq_false (by omega))) <| mvb rfl <| g_off rfl rfl rfl rfl <| g_off rfl rfl rfl rfl <| g_off rfl rfl rfl rfl <| g_off rfl rfl rfl rfl <| g_off rfl rfl rfl rfl <| g_off rfl rfl rfl rfl <| g_off rfl rfl rfl rfl <| pkf (.bool _) rfl rfl <| jt <| c_false rfl <| c_skip <| e_then <| c_seq <| csr <| mvp rfl <| nlc rfl <| fad rfl uy108 rfl ty3.sz <| ldp 2 2 _ rfl rfl rfl rfl ty3 <| cmp true rfl rfl (by simp only [cmpV]; exact congrArg some (decide_eq_true (by omega))) <| jt <| c_true rfl <| c_seq <| c_dr [_, _, _, _, _] [] [(0, 0), (1, 0), (2, 0), (3, 0), (4, 0), (5, 1), (6, 0), (7, 0)] follows (by kernel_rfl) calm_body (keepS [1, 2, 3, 4, 5] rfl) <| bld [pt (0 : Int), pt ([] : Str), p1 (.slice none 0 0), pt (⟨0⟩ : F64), pt (⟨0⟩ : F64), pt (0 : UInt64), pt (zarr : (Arr UInt8 32))] [] _ uy76 (lay76 _ uy76) z76 rfl rfl rfl <| mvp rfl <| nlc rfl <| fad rfl uy108 rfl ty3.sz ?_
     refine ldp 1 2 _ rfl rfl rfl rfl ty3 <| stw 0 _ [pt (0 : Int), pt ([] : Str), p1 (.slice none 0 0), pt (⟨0⟩ : F64), pt (⟨0⟩ : F64), pt (0 : UInt64), pt (zarr : (Arr UInt8 32))] rfl rfl rfl rfl ty76 ⟨keepI [1, 2, 3, 4, 5] rfl, ?_⟩
     refine agi rfl <| agi rfl <| jt <| c_ret ?_
     exact j_d (own0 := []) (ro0 := [tPow10 9, tDb64 11]) (.inl rfl) rfl (hr3 Tryz.results32 (rvc (p := pa [pt (0 : Int), pt ([] : Str), p1 (.slice none 0 0), pt (⟨0⟩ : F64), pt (⟨0⟩ : F64), pt (0 : UInt64), pt (zarr : (Arr UInt8 32))]) 0 rfl rfl rfl ty76) (rvt (v := (.int _ _)) rfl) (rvt (v := (.int _ _)) rfl)) [0, 1, 2, 3] [_, _, _, _] rfl (by kernel_rfl) rfl (.inr ⟨_, parse_read_f0 (by assumption) hmk19, rfl, rfl, rfl⟩)
   ·replace h14 := of_decide_eq_false h14
    refine csr <| scmp (a := (word s 0)) (b := ([112, 108, 97, 99, 101] : Str)) _ rfl rfl uy9 rfl <| agb rfl <| jt <| c_cond rfl (fun h16 => ?_) (fun h16 => ?_)
    ·replace h16 := of_decide_eq_true h16
     refine csr <| fad rfl uy76 rfl ty3.sz <| stp 2 0 _ (pt (3 : Int)) rfl rfl rfl rfl rfl rfl ty3 ⟨trivial, ?_⟩
     refine jsr <| mvp rfl <| cal (rdfl_ct b13 s ((word s 0).length) (by omega) (by omega) (90 : UInt64) ⟨4636033603912859648⟩ (by decide) earth_90) [1] [0, 2] [_, _] rfl rfl rfl (by kernel_rfl) impl_nil rfl ?_; rintro _ _ _ (⟨df20, dq20, hdg20, rfl, rfl, rfl⟩ | ⟨df20, dq20, da20, hdg20, rfl, rfl, rfl⟩)
     ·have hdg20b := degR_next hdg20; refine ⟨trivial, ?_⟩
      refine fad rfl uy76 rfl ty71.sz <| stp 1 3 _ (pt df20) rfl rfl rfl rfl rfl rfl ty71 ⟨trivial, ?_⟩
      refine jsr <| mvp rfl <| cal (rdfl_ct b13 s dq20 (by omega) (by omega) (180 : UInt64) ⟨4640537203540230144⟩ (by decide) earth_180) [2] [0, 1] [_, _] rfl rfl rfl (by kernel_rfl) impl_nil rfl ?_; rintro _ _ _ (⟨df21, dq21, hdg21, rfl, rfl, rfl⟩ | ⟨df21, dq21, da21, hdg21, rfl, rfl, rfl⟩)
      ·have hdg21b := degR_next hdg21; refine ⟨trivial, ?_⟩
       refine fad rfl uy76 rfl ty71.sz <| stp 1 4 _ (pt df21) rfl rfl rfl rfl rfl rfl ty71 ⟨trivial, ?_⟩
       refine jr <| mvp rfl <| cal (rdtext_ct b13 s dq21 (by omega) (by omega) 0 200 (by omega) (by omega)) [2] [0, 1] [_, _] rfl rfl rfl (by kernel_rfl) (impl_cons (impl_at 1 rfl) impl_nil) rfl ?_; rintro _ _ _ (⟨tt22, tq22, htx22, rfl, rfl, rfl⟩ | ⟨tt22, tq22, ta22, htx22, rfl, rfl, rfl⟩)
       ·have htx22b := textR_next htx22; refine ⟨trivial, ?_⟩
        refine fad rfl uy76 rfl ty9.sz <| stp 1 1 _ (pt tt22) rfl rfl rfl rfl rfl rfl ty9 ⟨trivial, ?_⟩
        refine jn <| e_in <| e_then <| c_seq <| csr <| mvp rfl <| nlc rfl <| fad rfl uy108 rfl ty3.sz <| ldp 2 2 _ rfl rfl rfl rfl ty3 <| cmp true rfl rfl rfl <| mvb rfl <| g_on rfl rfl rfl <| mvp rfl <| g_on rfl rfl rfl <| nlc rfl <| g_on rfl rfl rfl <| fad rfl uy108 rfl ty3.sz <| g_on rfl rfl rfl <| ldp 2 1 _ rfl rfl rfl rfl ty3 <| g_on rfl rfl rfl <| mvs rfl <| g_on rfl rfl rfl <| lenT (s := s) rfl uy9 <| g_on rfl rfl rfl <| cmp _ rfl rfl rfl <| pkt (.bool _) rfl rfl <| jt <| c_cond rfl (fun h17 => ?_) (fun h17 => ?_)
        ·replace h17 := ndt h17
         refine c_reg <| mvp rfl <| mvp rfl <| nlc rfl <| fad rfl uy108 rfl ty3.sz <| ldp 2 1 _ rfl rfl rfl rfl ty3 <| nlc rfl <| fad rfl uy108 rfl ty3.sz <| stp 2 2 _ (p1 (.int .i64 ((tq22 : Nat) : Int))) rfl rfl rfl rfl rfl rfl ty3 ⟨trivial, ?_⟩
         refine jt <| c_seq <| csr <| mvp rfl <| nlc rfl <| fad rfl uy108 rfl ty3.sz <| ldp 2 2 _ rfl rfl rfl rfl ty3 <| cmp true rfl rfl (by simp only [cmpV]; exact congrArg some (decide_eq_true (by omega))) <| jt <| c_true rfl <| c_seq <| c_dr [_, _, _, _] [] [(0, 0), (1, 0), (2, 0), (3, 0), (4, 0), (5, 1), (6, 0), (7, 0)] follows (by kernel_rfl) calm_body (keepS [1, 2, 3, 4] rfl) <| bld [pt (0 : Int), pt ([] : Str), p1 (.slice none 0 0), pt (⟨0⟩ : F64), pt (⟨0⟩ : F64), pt (0 : UInt64), pt (zarr : (Arr UInt8 32))] [] _ uy76 (lay76 _ uy76) z76 rfl rfl rfl <| mvp rfl <| nlc rfl <| fad rfl uy108 rfl ty3.sz <| ldp 1 2 _ rfl rfl rfl rfl ty3 <| stw 0 _ [pt (0 : Int), pt ([] : Str), p1 (.slice none 0 0), pt (⟨0⟩ : F64), pt (⟨0⟩ : F64), pt (0 : UInt64), pt (zarr : (Arr UInt8 32))] rfl rfl rfl rfl ty76 ⟨keepI [1, 2, 3, 4] rfl, ?_⟩
         refine agi rfl <| agi rfl <| jt <| c_ret ?_
         exact j_d (own0 := []) (ro0 := [tPow10 9, tDb64 11]) (.inl rfl) rfl (hr3 Tryz.results32 (rvc (p := pa [pt (0 : Int), pt ([] : Str), p1 (.slice none 0 0), pt (⟨0⟩ : F64), pt (⟨0⟩ : F64), pt (0 : UInt64), pt (zarr : (Arr UInt8 32))]) 0 rfl rfl rfl ty76) (rvt (v := (.int _ _)) rfl) (rvt (v := (.int _ _)) rfl)) [0, 1, 2] [_, _, _] rfl (by kernel_rfl) rfl (.inr ⟨_, parse_place_e (by assumption) hdg20 hdg21 htx22 (by omega), rfl, rfl, rfl⟩)
        ·replace h17 := ndf h17
         refine c_skip <| e_then <| c_seq <| csr <| mvp rfl <| nlc rfl <| fad rfl uy108 rfl ty3.sz <| ldp 2 2 _ rfl rfl rfl rfl ty3 <| cmp false rfl rfl rfl <| jt <| c_false rfl <| c_skip <| e_then <| csr <| ldw 1 _ rfl rfl ty76 <| stw 0 _ [pt (3 : Int), pt tt22, p1 (.slice none 0 0), pt df20, pt df21, pt (0 : UInt64), pt (zarr : (Arr UInt8 32))] rfl rfl rfl rfl ty76 ⟨trivial, ?_⟩
         refine agi rfl <| agi rfl <| jt <| c_ret <| e_addE ?_
         exact j_end (own0 := []) (ro0 := [tPow10 9, tDb64 11]) (.inl rfl) rfl (hr3 Tryz.results32 (rvc (p := pa [pt (3 : Int), pt tt22, p1 (.slice none 0 0), pt df20, pt df21, pt (0 : UInt64), pt (zarr : (Arr UInt8 32))]) 0 rfl rfl rfl ty76) (rvt (v := (.int _ _)) rfl) (rvt (v := (.int _ _)) rfl)) [3] [0, 1, 2] [_] [_, _, _] [] _ rfl rfl (by kernel_rfl) rfl impl_nil (.inl ⟨(⟨(3 : Int), tt22, df20, df21, (0 : UInt64), (zarr : (Arr UInt8 32))⟩ : Con), [], Ow.nil, _, (by have h := parse_place (by assumption) hdg20 hdg21 htx22 (by omega); exact h), by simp, Ow.nil_ok, rfl, rfl, rfl⟩)
       ·refine ⟨trivial, ?_⟩
        refine fad rfl uy76 rfl ty9.sz <| stp 1 1 _ (pt tt22) rfl rfl rfl rfl rfl rfl ty9 ⟨trivial, ?_⟩
        refine jn <| e_in <| e_then <| c_seq <| csr <| mvp rfl <| nlc rfl <| fad rfl uy108 rfl ty3.sz <| ldp 2 2 _ rfl rfl rfl rfl ty3 <| cmp false rfl rfl (by simp only [cmpV]; exact congrArg some (decide_eq_false (by omega))) <| mvb rfl <| g_off rfl rfl rfl rfl <| g_off rfl rfl rfl rfl <| g_off rfl rfl rfl rfl <| g_off rfl rfl rfl rfl <| g_off rfl rfl rfl rfl <| g_off rfl rfl rfl rfl <| g_off rfl rfl rfl rfl <| pkf (.bool _) rfl rfl <| jt <| c_false rfl <| c_skip <| e_then <| c_seq <| csr <| mvp rfl <| nlc rfl <| fad rfl uy108 rfl ty3.sz <| ldp 2 2 _ rfl rfl rfl rfl ty3 <| cmp true rfl rfl (by simp only [cmpV]; exact congrArg some (decide_eq_true (by omega))) <| jt <| c_true rfl <| c_seq <| c_dr [_, _, _, _] [] [(0, 0), (1, 0), (2, 0), (3, 0), (4, 0), (5, 1), (6, 0), (7, 0)] follows (by kernel_rfl) calm_body (keepS [1, 2, 3, 4] rfl) <| bld [pt (0 : Int), pt ([] : Str), p1 (.slice none 0 0), pt (⟨0⟩ : F64), pt (⟨0⟩ : F64), pt (0 : UInt64), pt (zarr : (Arr UInt8 32))] [] _ uy76 (lay76 _ uy76) z76 rfl rfl rfl <| mvp rfl <| nlc rfl <| fad rfl uy108 rfl ty3.sz ?_
        refine ldp 1 2 _ rfl rfl rfl rfl ty3 <| stw 0 _ [pt (0 : Int), pt ([] : Str), p1 (.slice none 0 0), pt (⟨0⟩ : F64), pt (⟨0⟩ : F64), pt (0 : UInt64), pt (zarr : (Arr UInt8 32))] rfl rfl rfl rfl ty76 ⟨keepI [1, 2, 3, 4] rfl, ?_⟩
        refine agi rfl <| agi rfl <| jt <| c_ret ?_
        exact j_d (own0 := []) (ro0 := [tPow10 9, tDb64 11]) (.inl rfl) rfl (hr3 Tryz.results32 (rvc (p := pa [pt (0 : Int), pt ([] : Str), p1 (.slice none 0 0), pt (⟨0⟩ : F64), pt (⟨0⟩ : F64), pt (0 : UInt64), pt (zarr : (Arr UInt8 32))]) 0 rfl rfl rfl ty76) (rvt (v := (.int _ _)) rfl) (rvt (v := (.int _ _)) rfl)) [0, 1, 2] [_, _, _] rfl (by kernel_rfl) rfl (.inr ⟨_, parse_place_f2 (by assumption) hdg20 hdg21 htx22, rfl, rfl, rfl⟩)
      ·refine ⟨trivial, ?_⟩
       refine fad rfl uy76 rfl ty71.sz <| stp 1 4 _ (pt df21) rfl rfl rfl rfl rfl rfl ty71 ⟨trivial, ?_⟩
       refine jr <| mvp rfl <| cal (rdtext_bad b13 s da21 dq21 0 200) [2] [0, 1] [_, _] rfl rfl rfl (by kernel_rfl) impl_nil rfl ?_; rintro _ _ _ ⟨rfl, rfl, rfl⟩; refine ⟨trivial, ?_⟩
       refine fad rfl uy76 rfl ty9.sz <| stp 1 1 _ (pt ([] : Str)) rfl rfl rfl rfl rfl rfl ty9 ⟨trivial, ?_⟩
       refine jn <| e_in <| e_then <| c_seq <| csr <| mvp rfl <| nlc rfl <| fad rfl uy108 rfl ty3.sz <| ldp 2 2 _ rfl rfl rfl rfl ty3 <| cmp false rfl rfl (by simp only [cmpV]; exact congrArg some (decide_eq_false (by omega))) <| mvb rfl <| g_off rfl rfl rfl rfl <| g_off rfl rfl rfl rfl <| g_off rfl rfl rfl rfl <| g_off rfl rfl rfl rfl <| g_off rfl rfl rfl rfl <| g_off rfl rfl rfl rfl <| g_off rfl rfl rfl rfl <| pkf (.bool _) rfl rfl <| jt <| c_false rfl <| c_skip <| e_then <| c_seq <| csr <| mvp rfl <| nlc rfl <| fad rfl uy108 rfl ty3.sz <| ldp 2 2 _ rfl rfl rfl rfl ty3 <| cmp true rfl rfl (by simp only [cmpV]; exact congrArg some (decide_eq_true (by omega))) <| jt <| c_true rfl <| c_seq <| c_dr [_, _, _, _] [] [(0, 0), (1, 0), (2, 0), (3, 0), (4, 0), (5, 1), (6, 0), (7, 0)] follows (by kernel_rfl) calm_body (keepS [1, 2, 3, 4] rfl) <| bld [pt (0 : Int), pt ([] : Str), p1 (.slice none 0 0), pt (⟨0⟩ : F64), pt (⟨0⟩ : F64), pt (0 : UInt64), pt (zarr : (Arr UInt8 32))] [] _ uy76 (lay76 _ uy76) z76 rfl rfl rfl <| mvp rfl <| nlc rfl <| fad rfl uy108 rfl ty3.sz ?_
       refine ldp 1 2 _ rfl rfl rfl rfl ty3 <| stw 0 _ [pt (0 : Int), pt ([] : Str), p1 (.slice none 0 0), pt (⟨0⟩ : F64), pt (⟨0⟩ : F64), pt (0 : UInt64), pt (zarr : (Arr UInt8 32))] rfl rfl rfl rfl ty76 ⟨keepI [1, 2, 3, 4] rfl, ?_⟩
       refine agi rfl <| agi rfl <| jt <| c_ret ?_
       exact j_d (own0 := []) (ro0 := [tPow10 9, tDb64 11]) (.inl rfl) rfl (hr3 Tryz.results32 (rvc (p := pa [pt (0 : Int), pt ([] : Str), p1 (.slice none 0 0), pt (⟨0⟩ : F64), pt (⟨0⟩ : F64), pt (0 : UInt64), pt (zarr : (Arr UInt8 32))]) 0 rfl rfl rfl ty76) (rvt (v := (.int _ _)) rfl) (rvt (v := (.int _ _)) rfl)) [0, 1, 2] [_, _, _] rfl (by kernel_rfl) rfl (.inr ⟨_, parse_place_f1 (by assumption) hdg20 hdg21, rfl, rfl, rfl⟩)
     ·refine ⟨trivial, ?_⟩
      refine fad rfl uy76 rfl ty71.sz <| stp 1 3 _ (pt df20) rfl rfl rfl rfl rfl rfl ty71 ⟨trivial, ?_⟩
      refine jsr <| mvp rfl <| cal (rdfl_bad b13 s da20 dq20 (180 : UInt64)) [2] [0, 1] [_, _] rfl rfl rfl (by kernel_rfl) impl_nil rfl ?_; rintro _ _ _ ⟨rfl, rfl, rfl⟩; refine ⟨trivial, ?_⟩
      refine fad rfl uy76 rfl ty71.sz <| stp 1 4 _ (pt (⟨0⟩ : F64)) rfl rfl rfl rfl rfl rfl ty71 ⟨trivial, ?_⟩
      refine jr <| mvp rfl <| cal (rdtext_bad b13 s da20 dq20 0 200) [2] [0, 1] [_, _] rfl rfl rfl (by kernel_rfl) impl_nil rfl ?_; rintro _ _ _ ⟨rfl, rfl, rfl⟩; refine ⟨trivial, ?_⟩
      refine fad rfl uy76 rfl ty9.sz <| stp 1 1 _ (pt ([] : Str)) rfl rfl rfl rfl rfl rfl ty9 ⟨trivial, ?_⟩
      refine jn <| e_in <| e_then <| c_seq <| csr <| mvp rfl <| nlc rfl <| fad rfl uy108 rfl ty3.sz <| ldp 2 2 _ rfl rfl rfl rfl ty3 <| cmp false rfl rfl (by simp only [cmpV]; exact congrArg some (decide_eq_false (by omega))) <| mvb rfl <| g_off rfl rfl rfl rfl <| g_off rfl rfl rfl rfl <| g_off rfl rfl rfl rfl <| g_off rfl rfl rfl rfl <| g_off rfl rfl rfl rfl <| g_off rfl rfl rfl rfl <| g_off rfl rfl rfl rfl <| pkf (.bool _) rfl rfl <| jt <| c_false rfl <| c_skip <| e_then <| c_seq <| csr <| mvp rfl <| nlc rfl <| fad rfl uy108 rfl ty3.sz <| ldp 2 2 _ rfl rfl rfl rfl ty3 <| cmp true rfl rfl (by simp only [cmpV]; exact congrArg some (decide_eq_true (by omega))) <| jt <| c_true rfl <| c_seq <| c_dr [_, _, _, _] [] [(0, 0), (1, 0), (2, 0), (3, 0), (4, 0), (5, 1), (6, 0), (7, 0)] follows (by kernel_rfl) calm_body (keepS [1, 2, 3, 4] rfl) <| bld [pt (0 : Int), pt ([] : Str), p1 (.slice none 0 0), pt (⟨0⟩ : F64), pt (⟨0⟩ : F64), pt (0 : UInt64), pt (zarr : (Arr UInt8 32))] [] _ uy76 (lay76 _ uy76) z76 rfl rfl rfl <| mvp rfl <| nlc rfl <| fad rfl uy108 rfl ty3.sz ?_
      refine ldp 1 2 _ rfl rfl rfl rfl ty3 <| stw 0 _ [pt (0 : Int), pt ([] : Str), p1 (.slice none 0 0), pt (⟨0⟩ : F64), pt (⟨0⟩ : F64), pt (0 : UInt64), pt (zarr : (Arr UInt8 32))] rfl rfl rfl rfl ty76 ⟨keepI [1, 2, 3, 4] rfl, ?_⟩
      refine agi rfl <| agi rfl <| jt <| c_ret ?_
      exact j_d (own0 := []) (ro0 := [tPow10 9, tDb64 11]) (.inl rfl) rfl (hr3 Tryz.results32 (rvc (p := pa [pt (0 : Int), pt ([] : Str), p1 (.slice none 0 0), pt (⟨0⟩ : F64), pt (⟨0⟩ : F64), pt (0 : UInt64), pt (zarr : (Arr UInt8 32))]) 0 rfl rfl rfl ty76) (rvt (v := (.int _ _)) rfl) (rvt (v := (.int _ _)) rfl)) [0, 1, 2] [_, _, _] rfl (by kernel_rfl) rfl (.inr ⟨_, parse_place_f0 (by assumption) hdg20, rfl, rfl, rfl⟩)
    ·replace h16 := of_decide_eq_false h16
     refine csr <| scmp (a := (word s 0)) (b := ([114, 101, 97, 99, 116] : Str)) _ rfl rfl uy9 rfl <| agb rfl <| jt <| c_cond rfl (fun h18 => ?_) (fun h18 => ?_)
     ·replace h18 := of_decide_eq_true h18
      refine csr <| fad rfl uy76 rfl ty3.sz <| stp 2 0 _ (pt (4 : Int)) rfl rfl rfl rfl rfl rfl ty3 ⟨trivial, ?_⟩
      refine jsr <| mvp rfl <| cal (rdnum_ct b13 s ((word s 0).length) (by omega) (by omega) (4294967295 : UInt64) (by decide)) [1] [0, 2] [_, _] rfl rfl rfl (by kernel_rfl) (impl_cons (impl_at 0 rfl) impl_nil) rfl ?_; rintro _ _ _ (⟨nn26, nq26, hnm26, rfl, rfl, rfl⟩ | ⟨nn26, nq26, na26, hnm26, rfl, rfl, rfl⟩)
      ·have hnm26b := numR_next hnm26; refine ⟨trivial, ?_⟩
       refine fad rfl uy76 rfl ty72.sz <| stp 1 5 _ (pt nn26) rfl rfl rfl rfl rfl rfl ty72 ⟨trivial, ?_⟩
       refine jr <| mvp rfl <| cal (rdtext_ct b13 s nq26 (by omega) (by omega) 1 64 (by omega) (by omega)) [2] [0, 1] [_, _] rfl rfl rfl (by kernel_rfl) (impl_cons (impl_at 1 rfl) impl_nil) rfl ?_; rintro _ _ _ (⟨tt27, tq27, htx27, rfl, rfl, rfl⟩ | ⟨tt27, tq27, ta27, htx27, rfl, rfl, rfl⟩)
       ·have htx27b := textR_next htx27; refine ⟨trivial, ?_⟩
        refine fad rfl uy76 rfl ty9.sz <| stp 1 1 _ (pt tt27) rfl rfl rfl rfl rfl rfl ty9 ⟨trivial, ?_⟩
        refine jn <| e_in <| e_then <| c_seq <| csr <| mvp rfl <| nlc rfl <| fad rfl uy108 rfl ty3.sz <| ldp 2 2 _ rfl rfl rfl rfl ty3 <| cmp true rfl rfl rfl <| mvb rfl <| g_on rfl rfl rfl <| mvp rfl <| g_on rfl rfl rfl <| nlc rfl <| g_on rfl rfl rfl <| fad rfl uy108 rfl ty3.sz <| g_on rfl rfl rfl <| ldp 2 1 _ rfl rfl rfl rfl ty3 <| g_on rfl rfl rfl <| mvs rfl <| g_on rfl rfl rfl <| lenT (s := s) rfl uy9 <| g_on rfl rfl rfl <| cmp _ rfl rfl rfl <| pkt (.bool _) rfl rfl <| jt <| c_cond rfl (fun h19 => ?_) (fun h19 => ?_)
        ·replace h19 := ndt h19
         refine c_reg <| mvp rfl <| mvp rfl <| nlc rfl <| fad rfl uy108 rfl ty3.sz <| ldp 2 1 _ rfl rfl rfl rfl ty3 <| nlc rfl <| fad rfl uy108 rfl ty3.sz <| stp 2 2 _ (p1 (.int .i64 ((tq27 : Nat) : Int))) rfl rfl rfl rfl rfl rfl ty3 ⟨trivial, ?_⟩
         refine jt <| c_seq <| csr <| mvp rfl <| nlc rfl <| fad rfl uy108 rfl ty3.sz <| ldp 2 2 _ rfl rfl rfl rfl ty3 <| cmp true rfl rfl (by simp only [cmpV]; exact congrArg some (decide_eq_true (by omega))) <| jt <| c_true rfl <| c_seq <| c_dr [_, _, _, _] [] [(0, 0), (1, 0), (2, 0), (3, 0), (4, 0), (5, 1), (6, 0), (7, 0)] follows (by kernel_rfl) calm_body (keepS [1, 2, 3, 4] rfl) <| bld [pt (0 : Int), pt ([] : Str), p1 (.slice none 0 0), pt (⟨0⟩ : F64), pt (⟨0⟩ : F64), pt (0 : UInt64), pt (zarr : (Arr UInt8 32))] [] _ uy76 (lay76 _ uy76) z76 rfl rfl rfl <| mvp rfl <| nlc rfl <| fad rfl uy108 rfl ty3.sz <| ldp 1 2 _ rfl rfl rfl rfl ty3 <| stw 0 _ [pt (0 : Int), pt ([] : Str), p1 (.slice none 0 0), pt (⟨0⟩ : F64), pt (⟨0⟩ : F64), pt (0 : UInt64), pt (zarr : (Arr UInt8 32))] rfl rfl rfl rfl ty76 ⟨keepI [1, 2, 3, 4] rfl, ?_⟩
         refine agi rfl <| agi rfl <| jt <| c_ret ?_
         exact j_d (own0 := []) (ro0 := [tPow10 9, tDb64 11]) (.inl rfl) rfl (hr3 Tryz.results32 (rvc (p := pa [pt (0 : Int), pt ([] : Str), p1 (.slice none 0 0), pt (⟨0⟩ : F64), pt (⟨0⟩ : F64), pt (0 : UInt64), pt (zarr : (Arr UInt8 32))]) 0 rfl rfl rfl ty76) (rvt (v := (.int _ _)) rfl) (rvt (v := (.int _ _)) rfl)) [0, 1, 2] [_, _, _] rfl (by kernel_rfl) rfl (.inr ⟨_, parse_react_e (by assumption) hnm26 htx27 (by omega), rfl, rfl, rfl⟩)
        ·replace h19 := ndf h19
         refine c_skip <| e_then <| c_seq <| csr <| mvp rfl <| nlc rfl <| fad rfl uy108 rfl ty3.sz <| ldp 2 2 _ rfl rfl rfl rfl ty3 <| cmp false rfl rfl rfl <| jt <| c_false rfl <| c_skip <| e_then <| csr <| ldw 1 _ rfl rfl ty76 <| stw 0 _ [pt (4 : Int), pt tt27, p1 (.slice none 0 0), pt (⟨0⟩ : F64), pt (⟨0⟩ : F64), pt nn26, pt (zarr : (Arr UInt8 32))] rfl rfl rfl rfl ty76 ⟨trivial, ?_⟩
         refine agi rfl <| agi rfl <| jt <| c_ret <| e_addE ?_
         exact j_end (own0 := []) (ro0 := [tPow10 9, tDb64 11]) (.inl rfl) rfl (hr3 Tryz.results32 (rvc (p := pa [pt (4 : Int), pt tt27, p1 (.slice none 0 0), pt (⟨0⟩ : F64), pt (⟨0⟩ : F64), pt nn26, pt (zarr : (Arr UInt8 32))]) 0 rfl rfl rfl ty76) (rvt (v := (.int _ _)) rfl) (rvt (v := (.int _ _)) rfl)) [3] [0, 1, 2] [_] [_, _, _] [] _ rfl rfl (by kernel_rfl) rfl impl_nil (.inl ⟨(⟨(4 : Int), tt27, (⟨0⟩ : F64), (⟨0⟩ : F64), nn26, (zarr : (Arr UInt8 32))⟩ : Con), [], Ow.nil, _, (by have h := parse_react (by assumption) hnm26 htx27 (by omega); rw [UInt64.ofNat_toNat] at h; exact h), by simp, Ow.nil_ok, rfl, rfl, rfl⟩)
       ·refine ⟨trivial, ?_⟩
        refine fad rfl uy76 rfl ty9.sz <| stp 1 1 _ (pt tt27) rfl rfl rfl rfl rfl rfl ty9 ⟨trivial, ?_⟩
        refine jn <| e_in <| e_then <| c_seq <| csr <| mvp rfl <| nlc rfl <| fad rfl uy108 rfl ty3.sz <| ldp 2 2 _ rfl rfl rfl rfl ty3 <| cmp false rfl rfl (by simp only [cmpV]; exact congrArg some (decide_eq_false (by omega))) <| mvb rfl <| g_off rfl rfl rfl rfl <| g_off rfl rfl rfl rfl <| g_off rfl rfl rfl rfl <| g_off rfl rfl rfl rfl <| g_off rfl rfl rfl rfl <| g_off rfl rfl rfl rfl <| g_off rfl rfl rfl rfl <| pkf (.bool _) rfl rfl <| jt <| c_false rfl <| c_skip <| e_then <| c_seq <| csr <| mvp rfl <| nlc rfl <| fad rfl uy108 rfl ty3.sz <| ldp 2 2 _ rfl rfl rfl rfl ty3 <| cmp true rfl rfl (by simp only [cmpV]; exact congrArg some (decide_eq_true (by omega))) <| jt <| c_true rfl <| c_seq <| c_dr [_, _, _, _] [] [(0, 0), (1, 0), (2, 0), (3, 0), (4, 0), (5, 1), (6, 0), (7, 0)] follows (by kernel_rfl) calm_body (keepS [1, 2, 3, 4] rfl) <| bld [pt (0 : Int), pt ([] : Str), p1 (.slice none 0 0), pt (⟨0⟩ : F64), pt (⟨0⟩ : F64), pt (0 : UInt64), pt (zarr : (Arr UInt8 32))] [] _ uy76 (lay76 _ uy76) z76 rfl rfl rfl <| mvp rfl <| nlc rfl <| fad rfl uy108 rfl ty3.sz ?_
        refine ldp 1 2 _ rfl rfl rfl rfl ty3 <| stw 0 _ [pt (0 : Int), pt ([] : Str), p1 (.slice none 0 0), pt (⟨0⟩ : F64), pt (⟨0⟩ : F64), pt (0 : UInt64), pt (zarr : (Arr UInt8 32))] rfl rfl rfl rfl ty76 ⟨keepI [1, 2, 3, 4] rfl, ?_⟩
        refine agi rfl <| agi rfl <| jt <| c_ret ?_
        exact j_d (own0 := []) (ro0 := [tPow10 9, tDb64 11]) (.inl rfl) rfl (hr3 Tryz.results32 (rvc (p := pa [pt (0 : Int), pt ([] : Str), p1 (.slice none 0 0), pt (⟨0⟩ : F64), pt (⟨0⟩ : F64), pt (0 : UInt64), pt (zarr : (Arr UInt8 32))]) 0 rfl rfl rfl ty76) (rvt (v := (.int _ _)) rfl) (rvt (v := (.int _ _)) rfl)) [0, 1, 2] [_, _, _] rfl (by kernel_rfl) rfl (.inr ⟨_, parse_react_f1 (by assumption) hnm26 htx27, rfl, rfl, rfl⟩)
      ·refine ⟨trivial, ?_⟩
       refine fad rfl uy76 rfl ty72.sz <| stp 1 5 _ (pt nn26) rfl rfl rfl rfl rfl rfl ty72 ⟨trivial, ?_⟩
       refine jr <| mvp rfl <| cal (rdtext_bad b13 s na26 nq26 1 64) [2] [0, 1] [_, _] rfl rfl rfl (by kernel_rfl) impl_nil rfl ?_; rintro _ _ _ ⟨rfl, rfl, rfl⟩; refine ⟨trivial, ?_⟩
       refine fad rfl uy76 rfl ty9.sz <| stp 1 1 _ (pt ([] : Str)) rfl rfl rfl rfl rfl rfl ty9 ⟨trivial, ?_⟩
       refine jn <| e_in <| e_then <| c_seq <| csr <| mvp rfl <| nlc rfl <| fad rfl uy108 rfl ty3.sz <| ldp 2 2 _ rfl rfl rfl rfl ty3 <| cmp false rfl rfl (by simp only [cmpV]; exact congrArg some (decide_eq_false (by omega))) <| mvb rfl <| g_off rfl rfl rfl rfl <| g_off rfl rfl rfl rfl <| g_off rfl rfl rfl rfl <| g_off rfl rfl rfl rfl <| g_off rfl rfl rfl rfl <| g_off rfl rfl rfl rfl <| g_off rfl rfl rfl rfl <| pkf (.bool _) rfl rfl <| jt <| c_false rfl <| c_skip <| e_then <| c_seq <| csr <| mvp rfl <| nlc rfl <| fad rfl uy108 rfl ty3.sz <| ldp 2 2 _ rfl rfl rfl rfl ty3 <| cmp true rfl rfl (by simp only [cmpV]; exact congrArg some (decide_eq_true (by omega))) <| jt <| c_true rfl <| c_seq <| c_dr [_, _, _, _] [] [(0, 0), (1, 0), (2, 0), (3, 0), (4, 0), (5, 1), (6, 0), (7, 0)] follows (by kernel_rfl) calm_body (keepS [1, 2, 3, 4] rfl) <| bld [pt (0 : Int), pt ([] : Str), p1 (.slice none 0 0), pt (⟨0⟩ : F64), pt (⟨0⟩ : F64), pt (0 : UInt64), pt (zarr : (Arr UInt8 32))] [] _ uy76 (lay76 _ uy76) z76 rfl rfl rfl <| mvp rfl <| nlc rfl <| fad rfl uy108 rfl ty3.sz ?_
       refine ldp 1 2 _ rfl rfl rfl rfl ty3 <| stw 0 _ [pt (0 : Int), pt ([] : Str), p1 (.slice none 0 0), pt (⟨0⟩ : F64), pt (⟨0⟩ : F64), pt (0 : UInt64), pt (zarr : (Arr UInt8 32))] rfl rfl rfl rfl ty76 ⟨keepI [1, 2, 3, 4] rfl, ?_⟩
       refine agi rfl <| agi rfl <| jt <| c_ret ?_
       exact j_d (own0 := []) (ro0 := [tPow10 9, tDb64 11]) (.inl rfl) rfl (hr3 Tryz.results32 (rvc (p := pa [pt (0 : Int), pt ([] : Str), p1 (.slice none 0 0), pt (⟨0⟩ : F64), pt (⟨0⟩ : F64), pt (0 : UInt64), pt (zarr : (Arr UInt8 32))]) 0 rfl rfl rfl ty76) (rvt (v := (.int _ _)) rfl) (rvt (v := (.int _ _)) rfl)) [0, 1, 2] [_, _, _] rfl (by kernel_rfl) rfl (.inr ⟨_, parse_react_f0 (by assumption) hnm26, rfl, rfl, rfl⟩)
     ·replace h18 := of_decide_eq_false h18
      refine csr <| scmp (a := (word s 0)) (b := ([116, 105, 109, 101, 114] : Str)) _ rfl rfl uy9 rfl <| agb rfl <| jt <| c_cond rfl (fun h20 => ?_) (fun h20 => ?_)
      ·replace h20 := of_decide_eq_true h20
       refine csr <| fad rfl uy76 rfl ty3.sz <| stp 2 0 _ (pt (5 : Int)) rfl rfl rfl rfl rfl rfl ty3 ⟨trivial, ?_⟩
       refine jr <| mvp rfl <| cal (rdnum_ct b13 s ((word s 0).length) (by omega) (by omega) (31536000 : UInt64) (by decide)) [1] [0, 2] [_, _] rfl rfl rfl (by kernel_rfl) (impl_cons (impl_at 0 rfl) impl_nil) rfl ?_; rintro _ _ _ (⟨nn29, nq29, hnm29, rfl, rfl, rfl⟩ | ⟨nn29, nq29, na29, hnm29, rfl, rfl, rfl⟩)
       ·have hnm29b := numR_next hnm29; refine ⟨trivial, ?_⟩
        refine fad rfl uy76 rfl ty72.sz <| stp 1 5 _ (pt nn29) rfl rfl rfl rfl rfl rfl ty72 ⟨trivial, ?_⟩
        refine jn <| e_in <| e_then <| c_seq <| csr <| mvp rfl <| nlc rfl <| fad rfl uy108 rfl ty3.sz <| ldp 2 2 _ rfl rfl rfl rfl ty3 <| cmp true rfl rfl rfl <| mvb rfl <| g_on rfl rfl rfl <| mvp rfl <| g_on rfl rfl rfl <| nlc rfl <| g_on rfl rfl rfl <| fad rfl uy108 rfl ty3.sz <| g_on rfl rfl rfl <| ldp 2 1 _ rfl rfl rfl rfl ty3 <| g_on rfl rfl rfl <| mvs rfl <| g_on rfl rfl rfl <| lenT (s := s) rfl uy9 <| g_on rfl rfl rfl <| cmp _ rfl rfl rfl <| pkt (.bool _) rfl rfl <| jt <| c_cond rfl (fun h21 => ?_) (fun h21 => ?_)
        ·replace h21 := ndt h21
         refine c_reg <| mvp rfl <| mvp rfl <| nlc rfl <| fad rfl uy108 rfl ty3.sz <| ldp 2 1 _ rfl rfl rfl rfl ty3 <| nlc rfl <| fad rfl uy108 rfl ty3.sz <| stp 2 2 _ (p1 (.int .i64 ((nq29 : Nat) : Int))) rfl rfl rfl rfl rfl rfl ty3 ⟨trivial, ?_⟩
         refine jt <| c_seq <| csr <| mvp rfl <| nlc rfl <| fad rfl uy108 rfl ty3.sz <| ldp 2 2 _ rfl rfl rfl rfl ty3 <| cmp true rfl rfl (by simp only [cmpV]; exact congrArg some (decide_eq_true (by omega))) <| jt <| c_true rfl <| c_seq <| c_dr [_, _, _, _] [] [(0, 0), (1, 0), (2, 0), (3, 0), (4, 0), (5, 1), (6, 0), (7, 0)] follows (by kernel_rfl) calm_body (keepS [1, 2, 3, 4] rfl) <| bld [pt (0 : Int), pt ([] : Str), p1 (.slice none 0 0), pt (⟨0⟩ : F64), pt (⟨0⟩ : F64), pt (0 : UInt64), pt (zarr : (Arr UInt8 32))] [] _ uy76 (lay76 _ uy76) z76 rfl rfl rfl <| mvp rfl <| nlc rfl <| fad rfl uy108 rfl ty3.sz <| ldp 1 2 _ rfl rfl rfl rfl ty3 <| stw 0 _ [pt (0 : Int), pt ([] : Str), p1 (.slice none 0 0), pt (⟨0⟩ : F64), pt (⟨0⟩ : F64), pt (0 : UInt64), pt (zarr : (Arr UInt8 32))] rfl rfl rfl rfl ty76 ⟨keepI [1, 2, 3, 4] rfl, ?_⟩
         refine agi rfl <| agi rfl <| jt <| c_ret ?_
         exact j_d (own0 := []) (ro0 := [tPow10 9, tDb64 11]) (.inl rfl) rfl (hr3 Tryz.results32 (rvc (p := pa [pt (0 : Int), pt ([] : Str), p1 (.slice none 0 0), pt (⟨0⟩ : F64), pt (⟨0⟩ : F64), pt (0 : UInt64), pt (zarr : (Arr UInt8 32))]) 0 rfl rfl rfl ty76) (rvt (v := (.int _ _)) rfl) (rvt (v := (.int _ _)) rfl)) [0, 1, 2] [_, _, _] rfl (by kernel_rfl) rfl (.inr ⟨_, parse_timer_e (by assumption) hnm29 (by omega), rfl, rfl, rfl⟩)
        ·replace h21 := ndf h21
         refine c_skip <| e_then <| c_seq <| csr <| mvp rfl <| nlc rfl <| fad rfl uy108 rfl ty3.sz <| ldp 2 2 _ rfl rfl rfl rfl ty3 <| cmp false rfl rfl rfl <| jt <| c_false rfl <| c_skip <| e_then <| csr <| ldw 1 _ rfl rfl ty76 <| stw 0 _ [pt (5 : Int), pt ([] : Str), p1 (.slice none 0 0), pt (⟨0⟩ : F64), pt (⟨0⟩ : F64), pt nn29, pt (zarr : (Arr UInt8 32))] rfl rfl rfl rfl ty76 ⟨trivial, ?_⟩
         refine agi rfl <| agi rfl <| jt <| c_ret <| e_addE ?_
         exact j_end (own0 := []) (ro0 := [tPow10 9, tDb64 11]) (.inl rfl) rfl (hr3 Tryz.results32 (rvc (p := pa [pt (5 : Int), pt ([] : Str), p1 (.slice none 0 0), pt (⟨0⟩ : F64), pt (⟨0⟩ : F64), pt nn29, pt (zarr : (Arr UInt8 32))]) 0 rfl rfl rfl ty76) (rvt (v := (.int _ _)) rfl) (rvt (v := (.int _ _)) rfl)) [3] [0, 1, 2] [_] [_, _, _] [] _ rfl rfl (by kernel_rfl) rfl impl_nil (.inl ⟨(⟨(5 : Int), ([] : Str), (⟨0⟩ : F64), (⟨0⟩ : F64), nn29, (zarr : (Arr UInt8 32))⟩ : Con), [], Ow.nil, _, (by have h := parse_timer (by assumption) hnm29 (by omega); rw [UInt64.ofNat_toNat] at h; exact h), by simp, Ow.nil_ok, rfl, rfl, rfl⟩)
       ·refine ⟨trivial, ?_⟩
        refine fad rfl uy76 rfl ty72.sz <| stp 1 5 _ (pt nn29) rfl rfl rfl rfl rfl rfl ty72 ⟨trivial, ?_⟩
        refine jn <| e_in <| e_then <| c_seq <| csr <| mvp rfl <| nlc rfl <| fad rfl uy108 rfl ty3.sz <| ldp 2 2 _ rfl rfl rfl rfl ty3 <| cmp false rfl rfl (by simp only [cmpV]; exact congrArg some (decide_eq_false (by omega))) <| mvb rfl <| g_off rfl rfl rfl rfl <| g_off rfl rfl rfl rfl <| g_off rfl rfl rfl rfl <| g_off rfl rfl rfl rfl <| g_off rfl rfl rfl rfl <| g_off rfl rfl rfl rfl <| g_off rfl rfl rfl rfl <| pkf (.bool _) rfl rfl <| jt <| c_false rfl <| c_skip <| e_then <| c_seq <| csr <| mvp rfl <| nlc rfl <| fad rfl uy108 rfl ty3.sz <| ldp 2 2 _ rfl rfl rfl rfl ty3 <| cmp true rfl rfl (by simp only [cmpV]; exact congrArg some (decide_eq_true (by omega))) <| jt <| c_true rfl <| c_seq <| c_dr [_, _, _, _] [] [(0, 0), (1, 0), (2, 0), (3, 0), (4, 0), (5, 1), (6, 0), (7, 0)] follows (by kernel_rfl) calm_body (keepS [1, 2, 3, 4] rfl) <| bld [pt (0 : Int), pt ([] : Str), p1 (.slice none 0 0), pt (⟨0⟩ : F64), pt (⟨0⟩ : F64), pt (0 : UInt64), pt (zarr : (Arr UInt8 32))] [] _ uy76 (lay76 _ uy76) z76 rfl rfl rfl <| mvp rfl <| nlc rfl <| fad rfl uy108 rfl ty3.sz ?_
        refine ldp 1 2 _ rfl rfl rfl rfl ty3 <| stw 0 _ [pt (0 : Int), pt ([] : Str), p1 (.slice none 0 0), pt (⟨0⟩ : F64), pt (⟨0⟩ : F64), pt (0 : UInt64), pt (zarr : (Arr UInt8 32))] rfl rfl rfl rfl ty76 ⟨keepI [1, 2, 3, 4] rfl, ?_⟩
        refine agi rfl <| agi rfl <| jt <| c_ret ?_
        exact j_d (own0 := []) (ro0 := [tPow10 9, tDb64 11]) (.inl rfl) rfl (hr3 Tryz.results32 (rvc (p := pa [pt (0 : Int), pt ([] : Str), p1 (.slice none 0 0), pt (⟨0⟩ : F64), pt (⟨0⟩ : F64), pt (0 : UInt64), pt (zarr : (Arr UInt8 32))]) 0 rfl rfl rfl ty76) (rvt (v := (.int _ _)) rfl) (rvt (v := (.int _ _)) rfl)) [0, 1, 2] [_, _, _] rfl (by kernel_rfl) rfl (.inr ⟨_, parse_timer_f0 (by assumption) hnm29, rfl, rfl, rfl⟩)
      ·replace h20 := of_decide_eq_false h20
       refine csr <| scmp (a := (word s 0)) (b := ([102, 105, 108, 101] : Str)) _ rfl rfl uy9 rfl <| agb rfl <| jt <| c_cond rfl (fun h22 => ?_) (fun h22 => ?_)
       ·replace h22 := of_decide_eq_true h22
        refine csr <| fad rfl uy76 rfl ty3.sz <| stp 2 0 _ (pt (6 : Int)) rfl rfl rfl rfl rfl rfl ty3 ⟨trivial, ?_⟩
        refine jsr <| mvp rfl <| cal (rdtext_ct b13 s ((word s 0).length) (by omega) (by omega) 1 255 (by omega) (by omega)) [1] [0, 2] [_, _] rfl rfl rfl (by kernel_rfl) (impl_cons (impl_at 1 rfl) impl_nil) rfl ?_; rintro _ _ _ (⟨tt30, tq30, htx30, rfl, rfl, rfl⟩ | ⟨tt30, tq30, ta30, htx30, rfl, rfl, rfl⟩)
        ·have htx30b := textR_next htx30; refine ⟨trivial, ?_⟩
         refine fad rfl uy76 rfl ty9.sz <| stp 1 1 _ (pt tt30) rfl rfl rfl rfl rfl rfl ty9 ⟨trivial, ?_⟩
         refine jsr <| mvp rfl <| cal (rdnum_ct b13 s tq30 (by omega) (by omega) (1099511627776 : UInt64) (by decide)) [2] [0, 1] [_, _] rfl rfl rfl (by kernel_rfl) (impl_cons (impl_at 0 rfl) impl_nil) rfl ?_; rintro _ _ _ (⟨nn31, nq31, hnm31, rfl, rfl, rfl⟩ | ⟨nn31, nq31, na31, hnm31, rfl, rfl, rfl⟩)
         ·have hnm31b := numR_next hnm31; refine ⟨trivial, ?_⟩
          refine fad rfl uy76 rfl ty72.sz <| stp 1 5 _ (pt nn31) rfl rfl rfl rfl rfl rfl ty72 ⟨trivial, ?_⟩
          refine jr <| mvp rfl <| cal (rdkey_ct b13 s nq31 (by omega) (by omega)) [2] [0, 1] [_, _] rfl rfl rfl (by kernel_rfl) impl_nil rfl ?_; rintro _ _ _ (⟨_, kq32, ⟨kw32, hby32, rfl⟩, rfl, rfl, rfl⟩ | ⟨kk32, kq32, ka32, hby32, rfl, rfl, rfl⟩)
          ·have hby32b := hexR_next hby32; refine ⟨trivial, ?_⟩
           refine fad rfl uy76 rfl ty74.sz <| stp 1 6 _ (pt (mkKey (hexb kw32 32))) rfl rfl rfl rfl rfl rfl ty74 ⟨trivial, ?_⟩
           refine jn <| e_in <| e_then <| c_seq <| csr <| mvp rfl <| nlc rfl <| fad rfl uy108 rfl ty3.sz <| ldp 2 2 _ rfl rfl rfl rfl ty3 <| cmp true rfl rfl rfl <| mvb rfl <| g_on rfl rfl rfl <| mvp rfl <| g_on rfl rfl rfl <| nlc rfl <| g_on rfl rfl rfl <| fad rfl uy108 rfl ty3.sz <| g_on rfl rfl rfl <| ldp 2 1 _ rfl rfl rfl rfl ty3 <| g_on rfl rfl rfl <| mvs rfl <| g_on rfl rfl rfl <| lenT (s := s) rfl uy9 <| g_on rfl rfl rfl <| cmp _ rfl rfl rfl <| pkt (.bool _) rfl rfl <| jt <| c_cond rfl (fun h23 => ?_) (fun h23 => ?_)
           ·replace h23 := ndt h23
            refine c_reg <| mvp rfl <| mvp rfl <| nlc rfl <| fad rfl uy108 rfl ty3.sz <| ldp 2 1 _ rfl rfl rfl rfl ty3 <| nlc rfl <| fad rfl uy108 rfl ty3.sz <| stp 2 2 _ (p1 (.int .i64 ((kq32 : Nat) : Int))) rfl rfl rfl rfl rfl rfl ty3 ⟨trivial, ?_⟩
            refine jt <| c_seq <| csr <| mvp rfl <| nlc rfl <| fad rfl uy108 rfl ty3.sz <| ldp 2 2 _ rfl rfl rfl rfl ty3 <| cmp true rfl rfl (by simp only [cmpV]; exact congrArg some (decide_eq_true (by omega))) <| jt <| c_true rfl <| c_seq <| c_dr [_, _, _, _] [] [(0, 0), (1, 0), (2, 0), (3, 0), (4, 0), (5, 1), (6, 0), (7, 0)] follows (by kernel_rfl) calm_body (keepS [1, 2, 3, 4] rfl) <| bld [pt (0 : Int), pt ([] : Str), p1 (.slice none 0 0), pt (⟨0⟩ : F64), pt (⟨0⟩ : F64), pt (0 : UInt64), pt (zarr : (Arr UInt8 32))] [] _ uy76 (lay76 _ uy76) z76 rfl rfl rfl <| mvp rfl <| nlc rfl <| fad rfl uy108 rfl ty3.sz <| ldp 1 2 _ rfl rfl rfl rfl ty3 <| stw 0 _ [pt (0 : Int), pt ([] : Str), p1 (.slice none 0 0), pt (⟨0⟩ : F64), pt (⟨0⟩ : F64), pt (0 : UInt64), pt (zarr : (Arr UInt8 32))] rfl rfl rfl rfl ty76 ⟨keepI [1, 2, 3, 4] rfl, ?_⟩
            refine agi rfl <| agi rfl <| jt <| c_ret ?_
            exact j_d (own0 := []) (ro0 := [tPow10 9, tDb64 11]) (.inl rfl) rfl (hr3 Tryz.results32 (rvc (p := pa [pt (0 : Int), pt ([] : Str), p1 (.slice none 0 0), pt (⟨0⟩ : F64), pt (⟨0⟩ : F64), pt (0 : UInt64), pt (zarr : (Arr UInt8 32))]) 0 rfl rfl rfl ty76) (rvt (v := (.int _ _)) rfl) (rvt (v := (.int _ _)) rfl)) [0, 1, 2] [_, _, _] rfl (by kernel_rfl) rfl (.inr ⟨_, parse_file_e (by assumption) htx30 hnm31 hby32 (by omega), rfl, rfl, rfl⟩)
           ·replace h23 := ndf h23
            refine c_skip <| e_then <| c_seq <| csr <| mvp rfl <| nlc rfl <| fad rfl uy108 rfl ty3.sz <| ldp 2 2 _ rfl rfl rfl rfl ty3 <| cmp false rfl rfl rfl <| jt <| c_false rfl <| c_skip <| e_then <| csr <| ldw 1 _ rfl rfl ty76 <| stw 0 _ [pt (6 : Int), pt tt30, p1 (.slice none 0 0), pt (⟨0⟩ : F64), pt (⟨0⟩ : F64), pt nn31, pt (mkKey (hexb kw32 32))] rfl rfl rfl rfl ty76 ⟨trivial, ?_⟩
            refine agi rfl <| agi rfl <| jt <| c_ret <| e_addE ?_
            exact j_end (own0 := []) (ro0 := [tPow10 9, tDb64 11]) (.inl rfl) rfl (hr3 Tryz.results32 (rvc (p := pa [pt (6 : Int), pt tt30, p1 (.slice none 0 0), pt (⟨0⟩ : F64), pt (⟨0⟩ : F64), pt nn31, pt (mkKey (hexb kw32 32))]) 0 rfl rfl rfl ty76) (rvt (v := (.int _ _)) rfl) (rvt (v := (.int _ _)) rfl)) [3] [0, 1, 2] [_] [_, _, _] [] _ rfl rfl (by kernel_rfl) rfl impl_nil (.inl ⟨(⟨(6 : Int), tt30, (⟨0⟩ : F64), (⟨0⟩ : F64), nn31, (mkKey (hexb kw32 32))⟩ : Con), [], Ow.nil, _, (by have h := parse_file (by assumption) htx30 hnm31 hby32 (by omega); rw [UInt64.ofNat_toNat] at h; exact h), by simp, Ow.nil_ok, rfl, rfl, rfl⟩)
          ·refine ⟨trivial, ?_⟩
           refine fad rfl uy76 rfl ty74.sz <| stp 1 6 _ (pt kk32) rfl rfl rfl rfl rfl rfl ty74 ⟨trivial, ?_⟩
           refine jn <| e_in <| e_then <| c_seq <| csr <| mvp rfl <| nlc rfl <| fad rfl uy108 rfl ty3.sz <| ldp 2 2 _ rfl rfl rfl rfl ty3 <| cmp false rfl rfl (by simp only [cmpV]; exact congrArg some (decide_eq_false (by omega))) <| mvb rfl <| g_off rfl rfl rfl rfl <| g_off rfl rfl rfl rfl <| g_off rfl rfl rfl rfl <| g_off rfl rfl rfl rfl <| g_off rfl rfl rfl rfl <| g_off rfl rfl rfl rfl <| g_off rfl rfl rfl rfl <| pkf (.bool _) rfl rfl <| jt <| c_false rfl <| c_skip <| e_then <| c_seq <| csr <| mvp rfl <| nlc rfl <| fad rfl uy108 rfl ty3.sz <| ldp 2 2 _ rfl rfl rfl rfl ty3 <| cmp true rfl rfl (by simp only [cmpV]; exact congrArg some (decide_eq_true (by omega))) <| jt <| c_true rfl <| c_seq <| c_dr [_, _, _, _] [] [(0, 0), (1, 0), (2, 0), (3, 0), (4, 0), (5, 1), (6, 0), (7, 0)] follows (by kernel_rfl) calm_body (keepS [1, 2, 3, 4] rfl) <| bld [pt (0 : Int), pt ([] : Str), p1 (.slice none 0 0), pt (⟨0⟩ : F64), pt (⟨0⟩ : F64), pt (0 : UInt64), pt (zarr : (Arr UInt8 32))] [] _ uy76 (lay76 _ uy76) z76 rfl rfl rfl <| mvp rfl <| nlc rfl <| fad rfl uy108 rfl ty3.sz ?_
           refine ldp 1 2 _ rfl rfl rfl rfl ty3 <| stw 0 _ [pt (0 : Int), pt ([] : Str), p1 (.slice none 0 0), pt (⟨0⟩ : F64), pt (⟨0⟩ : F64), pt (0 : UInt64), pt (zarr : (Arr UInt8 32))] rfl rfl rfl rfl ty76 ⟨keepI [1, 2, 3, 4] rfl, ?_⟩
           refine agi rfl <| agi rfl <| jt <| c_ret ?_
           exact j_d (own0 := []) (ro0 := [tPow10 9, tDb64 11]) (.inl rfl) rfl (hr3 Tryz.results32 (rvc (p := pa [pt (0 : Int), pt ([] : Str), p1 (.slice none 0 0), pt (⟨0⟩ : F64), pt (⟨0⟩ : F64), pt (0 : UInt64), pt (zarr : (Arr UInt8 32))]) 0 rfl rfl rfl ty76) (rvt (v := (.int _ _)) rfl) (rvt (v := (.int _ _)) rfl)) [0, 1, 2] [_, _, _] rfl (by kernel_rfl) rfl (.inr ⟨_, parse_file_f2 (by assumption) htx30 hnm31 hby32, rfl, rfl, rfl⟩)
         ·refine ⟨trivial, ?_⟩
          refine fad rfl uy76 rfl ty72.sz <| stp 1 5 _ (pt nn31) rfl rfl rfl rfl rfl rfl ty72 ⟨trivial, ?_⟩
          refine jr <| mvp rfl <| cal (rdkey_bad b13 s na31 nq31) [2] [0, 1] [_, _] rfl rfl rfl (by kernel_rfl) impl_nil rfl ?_; rintro _ _ _ ⟨rfl, rfl, rfl⟩; refine ⟨trivial, ?_⟩
          refine fad rfl uy76 rfl ty74.sz <| stp 1 6 _ (pt (zarr : Key)) rfl rfl rfl rfl rfl rfl ty74 ⟨trivial, ?_⟩
          refine jn <| e_in <| e_then <| c_seq <| csr <| mvp rfl <| nlc rfl <| fad rfl uy108 rfl ty3.sz <| ldp 2 2 _ rfl rfl rfl rfl ty3 <| cmp false rfl rfl (by simp only [cmpV]; exact congrArg some (decide_eq_false (by omega))) <| mvb rfl <| g_off rfl rfl rfl rfl <| g_off rfl rfl rfl rfl <| g_off rfl rfl rfl rfl <| g_off rfl rfl rfl rfl <| g_off rfl rfl rfl rfl <| g_off rfl rfl rfl rfl <| g_off rfl rfl rfl rfl <| pkf (.bool _) rfl rfl <| jt <| c_false rfl <| c_skip <| e_then <| c_seq <| csr <| mvp rfl <| nlc rfl <| fad rfl uy108 rfl ty3.sz <| ldp 2 2 _ rfl rfl rfl rfl ty3 <| cmp true rfl rfl (by simp only [cmpV]; exact congrArg some (decide_eq_true (by omega))) <| jt <| c_true rfl <| c_seq <| c_dr [_, _, _, _] [] [(0, 0), (1, 0), (2, 0), (3, 0), (4, 0), (5, 1), (6, 0), (7, 0)] follows (by kernel_rfl) calm_body (keepS [1, 2, 3, 4] rfl) <| bld [pt (0 : Int), pt ([] : Str), p1 (.slice none 0 0), pt (⟨0⟩ : F64), pt (⟨0⟩ : F64), pt (0 : UInt64), pt (zarr : (Arr UInt8 32))] [] _ uy76 (lay76 _ uy76) z76 rfl rfl rfl <| mvp rfl <| nlc rfl <| fad rfl uy108 rfl ty3.sz ?_
          refine ldp 1 2 _ rfl rfl rfl rfl ty3 <| stw 0 _ [pt (0 : Int), pt ([] : Str), p1 (.slice none 0 0), pt (⟨0⟩ : F64), pt (⟨0⟩ : F64), pt (0 : UInt64), pt (zarr : (Arr UInt8 32))] rfl rfl rfl rfl ty76 ⟨keepI [1, 2, 3, 4] rfl, ?_⟩
          refine agi rfl <| agi rfl <| jt <| c_ret ?_
          exact j_d (own0 := []) (ro0 := [tPow10 9, tDb64 11]) (.inl rfl) rfl (hr3 Tryz.results32 (rvc (p := pa [pt (0 : Int), pt ([] : Str), p1 (.slice none 0 0), pt (⟨0⟩ : F64), pt (⟨0⟩ : F64), pt (0 : UInt64), pt (zarr : (Arr UInt8 32))]) 0 rfl rfl rfl ty76) (rvt (v := (.int _ _)) rfl) (rvt (v := (.int _ _)) rfl)) [0, 1, 2] [_, _, _] rfl (by kernel_rfl) rfl (.inr ⟨_, parse_file_f1 (by assumption) htx30 hnm31, rfl, rfl, rfl⟩)
        ·refine ⟨trivial, ?_⟩
         refine fad rfl uy76 rfl ty9.sz <| stp 1 1 _ (pt tt30) rfl rfl rfl rfl rfl rfl ty9 ⟨trivial, ?_⟩
         refine jsr <| mvp rfl <| cal (rdnum_bad b13 s ta30 tq30 (1099511627776 : UInt64)) [2] [0, 1] [_, _] rfl rfl rfl (by kernel_rfl) impl_nil rfl ?_; rintro _ _ _ ⟨rfl, rfl, rfl⟩; refine ⟨trivial, ?_⟩
         refine fad rfl uy76 rfl ty72.sz <| stp 1 5 _ (pt (0 : UInt64)) rfl rfl rfl rfl rfl rfl ty72 ⟨trivial, ?_⟩
         refine jr <| mvp rfl <| cal (rdkey_bad b13 s ta30 tq30) [2] [0, 1] [_, _] rfl rfl rfl (by kernel_rfl) impl_nil rfl ?_; rintro _ _ _ ⟨rfl, rfl, rfl⟩; refine ⟨trivial, ?_⟩
         refine fad rfl uy76 rfl ty74.sz <| stp 1 6 _ (pt (zarr : Key)) rfl rfl rfl rfl rfl rfl ty74 ⟨trivial, ?_⟩
         refine jn <| e_in <| e_then <| c_seq <| csr <| mvp rfl <| nlc rfl <| fad rfl uy108 rfl ty3.sz <| ldp 2 2 _ rfl rfl rfl rfl ty3 <| cmp false rfl rfl (by simp only [cmpV]; exact congrArg some (decide_eq_false (by omega))) <| mvb rfl <| g_off rfl rfl rfl rfl <| g_off rfl rfl rfl rfl <| g_off rfl rfl rfl rfl <| g_off rfl rfl rfl rfl <| g_off rfl rfl rfl rfl <| g_off rfl rfl rfl rfl <| g_off rfl rfl rfl rfl <| pkf (.bool _) rfl rfl <| jt <| c_false rfl <| c_skip <| e_then <| c_seq <| csr <| mvp rfl <| nlc rfl <| fad rfl uy108 rfl ty3.sz <| ldp 2 2 _ rfl rfl rfl rfl ty3 <| cmp true rfl rfl (by simp only [cmpV]; exact congrArg some (decide_eq_true (by omega))) <| jt <| c_true rfl <| c_seq <| c_dr [_, _, _, _] [] [(0, 0), (1, 0), (2, 0), (3, 0), (4, 0), (5, 1), (6, 0), (7, 0)] follows (by kernel_rfl) calm_body (keepS [1, 2, 3, 4] rfl) <| bld [pt (0 : Int), pt ([] : Str), p1 (.slice none 0 0), pt (⟨0⟩ : F64), pt (⟨0⟩ : F64), pt (0 : UInt64), pt (zarr : (Arr UInt8 32))] [] _ uy76 (lay76 _ uy76) z76 rfl rfl rfl <| mvp rfl <| nlc rfl <| fad rfl uy108 rfl ty3.sz ?_
         refine ldp 1 2 _ rfl rfl rfl rfl ty3 <| stw 0 _ [pt (0 : Int), pt ([] : Str), p1 (.slice none 0 0), pt (⟨0⟩ : F64), pt (⟨0⟩ : F64), pt (0 : UInt64), pt (zarr : (Arr UInt8 32))] rfl rfl rfl rfl ty76 ⟨keepI [1, 2, 3, 4] rfl, ?_⟩
         refine agi rfl <| agi rfl <| jt <| c_ret ?_
         exact j_d (own0 := []) (ro0 := [tPow10 9, tDb64 11]) (.inl rfl) rfl (hr3 Tryz.results32 (rvc (p := pa [pt (0 : Int), pt ([] : Str), p1 (.slice none 0 0), pt (⟨0⟩ : F64), pt (⟨0⟩ : F64), pt (0 : UInt64), pt (zarr : (Arr UInt8 32))]) 0 rfl rfl rfl ty76) (rvt (v := (.int _ _)) rfl) (rvt (v := (.int _ _)) rfl)) [0, 1, 2] [_, _, _] rfl (by kernel_rfl) rfl (.inr ⟨_, parse_file_f0 (by assumption) htx30, rfl, rfl, rfl⟩)
       ·replace h22 := of_decide_eq_false h22
        refine c_reg <| mvp rfl <| nlc rfl <| fad rfl uy108 rfl ty3.sz <| stp 1 2 _ (pt (0 : Int)) rfl rfl rfl rfl rfl rfl ty3 ⟨trivial, ?_⟩
        refine jn <| e_in <| e_then <| c_seq <| csr <| mvp rfl <| nlc rfl <| fad rfl uy108 rfl ty3.sz <| ldp 1 2 _ rfl rfl rfl rfl ty3 <| cmp false rfl rfl rfl <| mvb rfl <| g_off rfl rfl rfl rfl <| g_off rfl rfl rfl rfl <| g_off rfl rfl rfl rfl <| g_off rfl rfl rfl rfl <| g_off rfl rfl rfl rfl <| g_off rfl rfl rfl rfl <| g_off rfl rfl rfl rfl <| pkf (.bool _) rfl rfl <| jt <| c_false rfl <| c_skip <| e_then <| c_seq <| csr <| mvp rfl <| nlc rfl <| fad rfl uy108 rfl ty3.sz <| ldp 1 2 _ rfl rfl rfl rfl ty3 <| cmp true rfl rfl rfl <| jt <| c_true rfl <| c_seq <| c_dr [_, _, _, _] [] [(0, 0), (1, 0), (2, 0), (3, 0), (4, 0), (5, 1), (6, 0), (7, 0)] follows (by kernel_rfl) calm_body (keepS [1, 2, 3, 4] rfl) <| bld [pt (0 : Int), pt ([] : Str), p1 (.slice none 0 0), pt (⟨0⟩ : F64), pt (⟨0⟩ : F64), pt (0 : UInt64), pt (zarr : (Arr UInt8 32))] [] _ uy76 (lay76 _ uy76) z76 rfl rfl rfl <| mvp rfl <| nlc rfl <| fad rfl uy108 rfl ty3.sz ?_
        refine ldp 0 2 _ rfl rfl rfl rfl ty3 <| stw 0 _ [pt (0 : Int), pt ([] : Str), p1 (.slice none 0 0), pt (⟨0⟩ : F64), pt (⟨0⟩ : F64), pt (0 : UInt64), pt (zarr : (Arr UInt8 32))] rfl rfl rfl rfl ty76 ⟨keepI [1, 2, 3, 4] rfl, ?_⟩
        refine agi rfl <| agi rfl <| jt <| c_ret ?_
        exact j_d (own0 := []) (ro0 := [tPow10 9, tDb64 11]) (.inl rfl) rfl (hr3 Tryz.results32 (rvc (p := pa [pt (0 : Int), pt ([] : Str), p1 (.slice none 0 0), pt (⟨0⟩ : F64), pt (⟨0⟩ : F64), pt (0 : UInt64), pt (zarr : (Arr UInt8 32))]) 0 rfl rfl rfl ty76) (rvt (v := (.int _ _)) rfl) (rvt (v := (.int _ _)) rfl)) [0, 1, 2] [_, _, _] rfl (by kernel_rfl) rfl (.inr ⟨0, parse_none (by first | assumption | contradiction) (by first | assumption | contradiction) (by first | assumption | contradiction) (by first | assumption | contradiction) (by first | assumption | contradiction) (by first | assumption | contradiction) (by first | assumption | contradiction), rfl, rfl, rfl⟩)
end Go.Proofs.YtakbbpahfclgnaaGreatDoor
namespace Go.PW
open Go
def skp (s : Str) (p : Nat) : Nat := p + ((s.drop p).takeWhile (· == 32)).length
theorem skp_step {s : Str} {p : Nat} (h : p < s.length) (hc : List.getD s p 0 = 32) : skp s (p + 1) = skp s p := by
  have e : List.getD s p 0 = s[p] := by simp [List.getD, h]
  rw [e] at hc
  unfold skp
  rw [List.drop_eq_getElem_cons h, List.takeWhile_cons_of_pos (by simpa using hc), List.length_cons]; omega
theorem skp_end {s : Str} {p : Nat} (h : ¬(p < s.length ∧ List.getD s p 0 = 32)) : skp s p = p := by
  unfold skp
  by_cases hl : p < s.length
  · have e : List.getD s p 0 = s[p] := by simp [List.getD, hl]
    have hc : ¬ s[p] = 32 := fun hc => h ⟨hl, e.trans hc⟩
    rw [List.drop_eq_getElem_cons hl, List.takeWhile_cons_of_neg (by simpa using hc)]; rfl
  · rw [List.drop_of_length_le (by omega)]; rfl
theorem skp_at : ∀ (k : Nat) (s : Str) (p : Nat), s.length - p ≤ k → skp s p < s.length → List.getD s (skp s p) 0 ≠ 32
  | k, s, p, hk, h => by
    by_cases c : p < s.length ∧ List.getD s p 0 = 32
    · cases k with
      | zero => omega
      | succ k =>
        rw [← skp_step c.1 c.2] at h ⊢
        exact skp_at k s (p + 1) (by omega) h
    · rw [skp_end c] at h ⊢
      exact fun hc => c ⟨h, hc⟩
theorem wlen_pos {s : Str} {p : Nat} (h : p < s.length) (hc : List.getD s p 0 ≠ 32) : 1 ≤ wlen s p := by rw [wlen_step h hc]; omega
theorem skp_pos {s : Str} {p : Nat} (h : skp s p < s.length) : 1 ≤ wlen s (skp s p) := wlen_pos h (skp_at s.length s p (by omega) h)
def wordsL (s : Str) (p : Nat) : List (Nat × Str) :=
  if h : skp s p < s.length then (skp s p, word s (skp s p)) :: wordsL s (skp s p + wlen s (skp s p)) else []
termination_by s.length - p
decreasing_by
  have h1 := skp_pos h
  have h2 : p ≤ skp s p := by unfold skp; omega
  omega
theorem wordsL_nil {s : Str} {p : Nat} (h : ¬ skp s p < s.length) : wordsL s p = [] := by rw [wordsL, dif_neg h]
theorem wordsL_cons {s : Str} {p : Nat} (h : skp s p < s.length) : wordsL s p = (skp s p, word s (skp s p)) :: wordsL s (skp s p + wlen s (skp s p)) := by rw [wordsL, dif_pos h]
theorem wordsL_skip {s : Str} {p : Nat} (h : p < s.length) (hc : List.getD s p 0 = 32) : wordsL s (p + 1) = wordsL s p := by
  have e := skp_step h hc
  by_cases hl : skp s p < s.length
  · rw [wordsL_cons hl, wordsL_cons (by rw [e]; exact hl), e]
  · rw [wordsL_nil hl, wordsL_nil (by rw [e]; exact hl)]
theorem wordsL_here {s : Str} {p : Nat} (h : p < s.length) (hc : List.getD s p 0 ≠ 32) : wordsL s p = (p, word s p) :: wordsL s (p + wlen s p) := by
  have e : skp s p = p := skp_end fun hh => hc hh.2
  rw [wordsL_cons (by rw [e]; exact h), e]
theorem wordsL_out {s : Str} {p : Nat} (h : ¬ p < s.length) : wordsL s p = [] := wordsL_nil (by rw [skp_end (fun hh => h hh.1)]; exact h)
theorem wordsL_mem : ∀ (k : Nat) (s : Str) (p : Nat), s.length - p ≤ k → ∀ x ∈ wordsL s p, x.1 < s.length ∧ 1 ≤ x.2.length ∧ x.1 + x.2.length ≤ s.length ∧ x.2 = word s x.1
  | k, s, p, hk, x, hx => by
    by_cases h : skp s p < s.length
    · have h1 := skp_pos h
      have h2 : p ≤ skp s p := by unfold skp; omega
      have h3 := wlen_le s (skp s p)
      rw [wordsL_cons h] at hx
      rcases List.mem_cons.1 hx with e | hx
      · subst e; dsimp only; rw [word_length]; exact ⟨h, h1, by omega, rfl⟩
      · cases k with
        | zero => omega
        | succ k => exact wordsL_mem k s _ (by omega) x hx
    · rw [wordsL_nil h] at hx; cases hx
def linesL (s : Str) : List Str :=
  if h : s.length = 0 then [] else if idxN s 10 < s.length then s.take (idxN s 10) :: linesL (s.drop (idxN s 10 + 1)) else [s]
termination_by s.length
decreasing_by simp; omega
theorem linesL_nil {s : Str} (h : s.length = 0) : linesL s = [] := by rw [linesL, dif_pos h]
theorem linesL_cut {s : Str} (h : idxN s 10 < s.length) : linesL s = s.take (idxN s 10) :: linesL (s.drop (idxN s 10 + 1)) := by rw [linesL, dif_neg (by omega), if_pos h]
theorem linesL_last {s : Str} (h0 : 0 < s.length) (h : ¬ idxN s 10 < s.length) : linesL s = [s] := by rw [linesL, dif_neg (by omega), if_neg h]
theorem linesL_mem : ∀ (k : Nat) (s : Str), s.length ≤ k → ∀ l ∈ linesL s, l.length ≤ s.length
  | k, s, hk, l, hl => by
    by_cases h0 : s.length = 0
    · rw [linesL_nil h0] at hl; cases hl
    by_cases h : idxN s 10 < s.length
    · rw [linesL_cut h] at hl
      rcases List.mem_cons.1 hl with e | hl
      · subst e; rw [List.length_take]; omega
      · cases k with
        | zero => omega
        | succ k =>
          have := linesL_mem k _ (by rw [List.length_drop]; omega) l hl
          rw [List.length_drop] at this; omega
    · rw [linesL_last (by omega) h] at hl
      rcases List.mem_cons.1 hl with e | hl
      · subst e; exact Nat.le_refl _
      · cases hl
theorem linesL_len : ∀ (k : Nat) (s : Str), s.length ≤ k → (linesL s).length ≤ s.length
  | k, s, hk => by
    by_cases h0 : s.length = 0
    · rw [linesL_nil h0]; exact Nat.zero_le _
    by_cases h : idxN s 10 < s.length
    · rw [linesL_cut h, List.length_cons]
      cases k with
      | zero => omega
      | succ k =>
        have := linesL_len k (s.drop (idxN s 10 + 1)) (by rw [List.length_drop]; omega)
        rw [List.length_drop] at this; omega
    · rw [linesL_last (by omega) h]; simp; omega
structure Cm where
  line : Nat
  word : Str
  args : List Str
  deriving DecidableEq
section
variable (fit : UInt8 → Str → Bool) (form : Str → Option (List UInt8)) (first : Str) (why : Nat)
def argsR (s : Str) : List Str → List UInt8 → List (Nat × Str) → Sum (Nat × Nat) (List Str × List (Nat × Str))
  | acc, [], r => .inr (acc, r)
  | _, _ :: _, [] => .inl (s.length, why)
  | acc, k :: ks, (a, w) :: r =>
    if k = 99 then (match parseR (s.drop a) with
      | .inl q => .inl (a + q, 90)
      | .inr _ => .inr (acc ++ [s.drop a], []))
    else if fit k w = true then argsR s (acc ++ [w]) ks r else .inl (a, why)
def lineR (s : Str) (ahead : Nat) : Sum (Nat × Nat) (Option (Str × List Str)) :=
  if 4000 < s.length then .inl (4000, 2)
  else match wordsL s 0 with
    | [] => .inr none
    | (a, w) :: r =>
      if List.getD w 0 0 = 35 then .inr none
      else if 400 ≤ ahead then .inl (0, 2)
      else match form w with
        | none => .inl (a, why)
        | some ks =>
          if decide (w = first) ≠ decide (ahead = 0) then .inl (a, why)
          else match argsR fit why s [] ks r with
            | .inl e => .inl e
            | .inr (l, []) => .inr (some (w, l))
            | .inr (_, (a', _) :: _) => .inl (a', why)
def scriptL : List Str → Nat → List Cm → Sum (Nat × Nat × Nat) (List Cm)
  | [], _, acc => .inr acc
  | s :: ls, i, acc => match lineR fit form first why s acc.length with
    | .inl (a, e) => .inl (i + 1, a, e)
    | .inr none => scriptL ls (i + 1) acc
    | .inr (some (w, l)) => scriptL ls (i + 1) (acc ++ [⟨i + 1, w, l⟩])
def scriptR (s : Str) : Sum (Nat × Nat × Nat) (List Cm) := if 262144 < s.length then .inl (0, 0, 2) else scriptL fit form first why (linesL s) 0 []
end
end Go.PW
namespace Go.PW
open Enc (enc val)
open Go
theorem keyT_str {P : Program} {t : Nat} (hu : P.underlying t = some .string) : KeyT P t Str where
  chk e x w := by
    have := chkT_scalar (α := Str) hu rfl 9999 e x w
    exact this
  fnd x es ks w h := by
    have hnow : ∀ (es : List MapEntry) (ks : List Str) (i : Nat), es.map (·.key) = ks.map val → Instr.findNow .string (val x) es i = some (PW.fnd x (ks.zip (es.map (·.val))) i) := by
      intro es
      induction es with
      | nil => intro ks i h; cases ks <;> simp_all [Instr.findNow, PW.fnd]
      | cons e es ih =>
        intro ks i h
        cases ks with
        | nil => simp at h
        | cons y ks =>
          simp only [List.map_cons, List.cons.injEq] at h
          have hs : Instr.sameNow .string (val x) e.key = some (decide (x = y)) := by
            rw [h.1]
            show some ((⟨x⟩ : Array UInt8) == ⟨y⟩) = _
            congr 1
            rw [Bool.eq_iff_iff]; simp
          simp only [Instr.findNow, hs, List.map_cons, List.zip_cons_cons, PW.fnd]
          by_cases hxy : x = y
          · simp [hxy]
          · simp only [hxy, decide_false, if_false]; exact ih ks (i + 1) h.2
    unfold Instr.findKey
    simp only [Sem.run_bind, run_underlying hu, Result.andThen_ok, hnow es ks 0 h]
    rfl
section
variable {own ro : List Seg}
theorem app_kcore {α : Type} [Enc α] {w : World} {P : Program} {zt : Zt0} {E bytes : Nat} {S T ty : Nat} {o : Ow} {xs ys : List α} {yv zv : Value} {j : Nat} {dT : TypeDesc} (hw : In zt own ro w) (hs : own[j]? = some (o.seg xs E)) (hok : o.ok xs) (hg : Gives P (own ++ ro) yv ys)
    (hu : P.underlying S = some (.slice E)) (hT : P.underlying T = some dT) (hT2 : (∃ e, dT = .slice e) ∨ dT = .string) (hsz : (P.info? E).map (·.size) = some (Enc.n α)) (hby : (P.info? E).map (·.bytes) = some bytes) (hz : Zt P E zv)
    (hroom : (xs.length + ys.length) * bytes ≤ 140737488355328) (hbytes : 0 < bytes) :
    ∃ (o' : Ow) (r : Value) (w' : World), Ow.ok o' xs ∧ o'.adr = o.adr ∧ o'.cap = o.cap ∧ (Builtin.append_ #[S, T] ty #[.slice o.adr xs.length o.cap, yv]).run P w = .ok r w' ∧ In zt (own.set j (o'.seg xs E)) ro w' := by
  have hsrc := hw.src
  obtain ⟨hlen, hfirst⟩ := hg w hsrc
  have hlt : j < own.length := (List.getElem?_eq_some_iff.1 hs).1
  by_cases hroomy : xs.length + ys.length ≤ o.cap
  · have hrun := run_append_fits (base := o.adr) (ty := ty) hu hT hT2 hsz hlen hfirst hroomy
    cases hn : o.nl with
    | true =>
      obtain ⟨rfl, hc0⟩ := hok.nl hn
      have hys : ys = [] := List.length_eq_zero_iff.1 (by simp at hroomy; omega)
      subst hys
      have ha : o.adr = none := by simp [Ow.adr, hn]
      refine ⟨o, .slice o.adr (([] : List α).length + ([] : List α).length) o.cap, w, hok, rfl, rfl, ?_, by rw [set_self hs]; exact hw⟩
      · rw [hrun]
        simp [ha]
    | false =>
      have ha : o.adr = some ⟨o.b, 0, none⟩ := by simp [Ow.adr, hn]
      have hs' : own[j]? = some [(o.b, .cells (encs xs ++ o.sp) E)] := by rw [hs]; simp [Ow.seg, hn]
      have hl := hok.len hn
      obtain ⟨x, hx, fr, rfl, hfr⟩ := hw.has.o _ (List.mem_of_getElem? hs') (o.b, .cells (encs xs ++ o.sp) E) (List.mem_singleton.2 rfl)
      have hsp : ys.length * Enc.n α ≤ o.sp.length := by
        have := Nat.mul_le_mul_right (Enc.n α) hroomy
        rw [Nat.add_mul] at this; omega
      obtain ⟨w', hr, hh, hold, hsz', hos, htp, hout⟩ := run_stores (P := P) (encs ys) 0 (xs.length * Enc.n α) (encs xs ++ o.sp) w hx hfr (by simp [encs_length]; omega) (encs_one ys)
      refine ⟨⟨false, o.b, o.cap, encs ys ++ o.sp.drop (ys.length * Enc.n α)⟩, .slice (some ⟨o.b, 0, none⟩) (xs.length + ys.length) o.cap, w', ⟨by simp, fun _ => ?_, ?_⟩, by simp [Ow.adr, hn], rfl, ?_, ?_⟩
      · simp only [List.length_append, List.length_drop, encs_length]; omega
      · exact Nat.le_trans (Nat.le_add_right _ _) hroomy
      · rw [hrun, ha]
        simp only [add_none, Nat.zero_add, hr, Result.andThen_ok]
      · have e1 : List.take (xs.length * Enc.n α + 0) (encs xs ++ o.sp) ++ (encs ys ++ List.drop (xs.length * Enc.n α + 0 + (encs ys).length) (encs xs ++ o.sp)) = encs xs ++ (encs ys ++ o.sp.drop (ys.length * Enc.n α)) := by
          rw [Nat.add_zero, ← encs_length xs, ← encs_length ys]
          simp [List.drop_append, List.drop_eq_nil_of_le]
        rw [e1] at hh
        have e2 : (Ow.seg ⟨false, o.b, o.cap, encs ys ++ o.sp.drop (ys.length * Enc.n α)⟩ xs E) = [(o.b, Ck.cells (encs xs ++ (encs ys ++ o.sp.drop (ys.length * Enc.n α))) E)] := by simp [Ow.seg]
        rw [e2]
        refine hw.turn hs' hh ⟨fr, rfl, ?_⟩ hold hsz' hos htp hout
        simp only [List.length_append, encs_length, List.length_drop] at hfr ⊢
        omega
  · have hold : ∀ w' : World, w'.heap = w.heap → (Builtin.firstCells (Enc.n α) xs.length (.slice o.adr xs.length o.cap)).run P w' = .ok ⟨encs xs⟩ w' := fun w' e => by
      cases hn : o.nl with
      | true =>
        obtain ⟨rfl, _⟩ := hok.nl hn
        have ha : o.adr = none := by simp [Ow.adr, hn]
        rw [ha]; rfl
      | false =>
        have ha : o.adr = some ⟨o.b, 0, none⟩ := by simp [Ow.adr, hn]
        have hs' : own[j]? = some [(o.b, .cells (encs xs ++ o.sp) E)] := by rw [hs]; simp [Ow.seg, hn]
        rw [ha]
        exact run_firstCells (cellsAt_cells ((allIn_heap hsrc e) _ (List.mem_append.2 (.inl (List.mem_of_getElem? hs')))) (List.mem_singleton.2 rfl) (pre := []) (post := o.sp) (by simp) rfl) (encs_length xs)
    obtain ⟨k, hk, hrun⟩ := run_append_grows (w := w) (base := o.adr) (ty := ty) (yv := yv) (xsc := encs xs) (ysc := encs ys) hu hT hT2 hsz hby hz hlen (fun w' e => (hg w' (allIn_heap hsrc e)).2) hold hroomy hroom hbytes
    refine ⟨o, _, _, hok, rfl, rfl, hrun, ?_⟩
    rw [set_self hs]
    refine In.drop (own := (own ++ [[]]).set own.length [(w.heap.size, Ck.cells (encs xs ++ encs ys ++ (Builtin.zeroCells zv.cells (k - (xs.length + ys.length))).toList) E)]) (dr := [[(w.heap.size, Ck.cells (encs xs ++ encs ys ++ (Builtin.zeroCells zv.cells (k - (xs.length + ys.length))).toList) E)]]) ?_ ?_
    · refine (hw.addE).dropAdd (s := []) (by simp) (fun p hp => ?_) (fun b hb _ => ?_) (by simp) rfl rfl rfl (by simp) (by simp)
      · rw [List.mem_singleton] at hp; subst hp
        exact ⟨_, by simp, (0, 0), rfl, .inr (Nat.le_refl _)⟩
      · simp [Array.getElem?_push, Nat.ne_of_lt hb]
    · rw [List.set_append_right _ _ (Nat.le_refl _), Nat.sub_self]
      exact List.Perm.refl _
end
section
variable {cx : Cx} {md : Md} {ops : Array Oper} {Q : Exit → Act → World → Prop} {rest : List (Oper × Nat)} {kq : Nat} {base : Nat → Value} {L : List (Nat × Value)} {own ro : List Seg}
variable {q : Nat} {d : Nat} {ty : TypeId} {pos : String} {aft : Array Edge} {x y z : Operand} {xt yt : TypeId}
theorem appk {α : Type} [Enc α] {E bytes len cap : Nat} {a : Option Addr} {S T : TypeId} {yv zv : Value} {dT : TypeDesc} (j : Nat) (o : Ow) (xs ys : List α) (hok : o.ok xs) (hx : ev cx.n base L x = .slice a len cap) (ha : a = o.adr ∧ len = xs.length ∧ cap = o.cap) (hs : own[j]? = some (o.seg xs E)) (hy : ev cx.n base L y = yv) (hg : Gives cx.P (own ++ ro) yv ys)
    (hu : cx.P.underlying S = some (.slice E)) (hT : cx.P.underlying T = some dT) (hT2 : (∃ e, dT = .slice e) ∨ dT = .string) (hsz : (cx.P.info? E).map (·.size) = some (Enc.n α)) (hby : (cx.P.info? E).map (·.bytes) = some bytes) (hz : Zt cx.P E zv)
    (hroom : (xs.length + ys.length) * bytes ≤ 140737488355328) (hbytes : Nat.blt 0 bytes = true)
    (h : ∀ (o' : Ow) (r : Value), o'.ok xs → o'.adr = o.adr → o'.cap = o.cap → Keep md kq rest (own.set j (o'.seg xs E)) ro ∧ JG cx md ops Q rest base ((d, r) :: L) (own.set j (o'.seg xs E)) ro) :
    JG cx md ops Q ((⟨some d, .call ⟨.builtin .append, #[x, y], #[S, T]⟩, ty, pos, aft, none⟩, kq + 1) :: rest) base L own ro :=
  nq (Post := fun L' own' ro' => ∃ (o' : Ow) (r : Value), o'.ok xs ∧ o'.adr = o.adr ∧ o'.cap = o.cap ∧ L' = (d, r) :: L ∧ own' = own.set j (o'.seg xs E) ∧ ro' = ro) rfl
    (fun w K hw hK => by
      obtain ⟨rfl, rfl, rfl⟩ := ha
      obtain ⟨o', r, w', hok', h1, h2, hrun, hin⟩ := app_kcore (ty := ty) hw hs hok hg hu hT hT2 hsz hby hz hroom (Nat.ble_eq.mp hbytes)
      unfold Oper.wp
      rw [A_eval_fun]
      simp only [execOp, resolve, invoke, builtin, List.map_toArray, List.map_cons, List.map_nil, hx, hy, Sem.run_bind, Sem.run_pure, Result.andThen_ok, hrun, Oper.upon]
      show K ((A cx.n base L).put (some d) _) _
      rw [A_put]
      exact hK _ _ _ _ ⟨o', r, hok', h1, h2, rfl, rfl, rfl⟩ hin)
    (by rintro L' own' ro' ⟨o', r, h1, h2, h3, rfl, rfl, rfl⟩; exact (h o' r h1 h2 h3).1)
    (by rintro L' own' ro' ⟨o', r, h1, h2, h3, rfl, rfl, rfl⟩; exact (h o' r h1 h2 h3).2)
end
end Go.PW
namespace Go.PW
open Enc (enc val)
open Go
section
variable {cx : Cx} {md : Md} {ops : Array Oper} {Q : Exit → Act → World → Prop} {rest : List (Oper × Nat)} {kq : Nat} {base : Nat → Value} {L : List (Nat × Value)} {own ro : List Seg}
variable {q : Nat} {d : Nat} {ty : TypeId} {pos : String} {aft : Array Edge} {x y z : Operand} {xt yt : TypeId}
theorem ins {α β : Type} [Enc α] [Enc β] [DecidableEq α] {K E bk : Nat} {kx vx : Value} (j : Nat) (kv : List (α × β)) (k : α) (v : β) (hx : ev cx.n base L x = .map (some bk)) (hy : ev cx.n base L y = kx) (hkx : kx = val k) (hz : ev cx.n base L z = vx) (hvx : vx = val v) (hu : cx.P.underlying xt = some (.map K E))
    (hk : KeyT cx.P K α) (hs : own[j]? = some [(bk, .pred (isMap kv))]) (hnew : mget k kv = none)
    (h : Keep md kq rest (own.set j [(bk, .pred (isMap (kv ++ [(k, v)])))]) ro ∧ JG cx md ops Q rest base L (own.set j [(bk, .pred (isMap (kv ++ [(k, v)])))]) ro) : JG cx md ops Q ((⟨none, .insert xt x y z, ty, pos, aft, none⟩, kq + 1) :: rest) base L own ro :=
  nq (Post := fun L' own' ro' => L' = L ∧ own' = own.set j [(bk, .pred (isMap (kv ++ [(k, v)])))] ∧ ro' = ro) rfl
    (fun w Kt hw hK => by
      subst hkx; subst hvx
      obtain ⟨o, ho, ⟨es, clock, rfl, he, hbn⟩, hc⟩ := hw.has.o _ (List.mem_of_getElem? hs) _ (List.mem_singleton.2 rfl)
      have hf : fnd k kv 0 = none := by simpa [mget] using hnew
      unfold Oper.wp
      rw [A_eval_fun]
      simp only [execOp, hx, hy, hz, Instr.mapUpdate, Sem.run_bind, run_underlying hu, Result.andThen_ok, run_getMap ho hc, Sem.run_pure, hk.chk, map_run hk he, hf, Option.map_none, run_setMap ho hc, Oper.upon]
      exact hK _ _ _ _ ⟨rfl, rfl, rfl⟩ (hw.turnObj hs ⟨⟨es ++ [⟨val k, val v, clock⟩], clock + 1, by simp, by simp [he], hbn.push _ _⟩, rfl⟩))
    (by rintro L' own' ro' ⟨rfl, rfl, rfl⟩; exact h.1)
    (by rintro L' own' ro' ⟨rfl, rfl, rfl⟩; exact h.2)
theorem lk2v {α β : Type} [Enc α] [Enc β] [DecidableEq α] {K E bk : Nat} {kx : Value} (j : Nat) (kv : List (α × β)) (k : α) (z : β) (r : Option β) (hr : mget k kv = r) (hx : ev cx.n base L x = .map (some bk)) (hy : ev cx.n base L y = kx) (hkx : kx = val k) (hu : cx.P.underlying xt = some (.map K E))
    (hk : KeyT cx.P K α) (hz : Zt cx.P E (val z)) (hs : (Src md q own ro)[j]? = some [(bk, .pred (isMap kv))])
    (h : JG cx md ops Q rest base ((d, .tuple #[val (r.getD z), .bool r.isSome]) :: L) own ro) : JG cx md ops Q ((⟨some d, .lookup xt x y true, ty, pos, aft, none⟩, q) :: rest) base L own ro := by
  subst hr; exact lk2 j kv k z hx hy hkx hu hk hz hs h
end
def lowB (c : UInt8) : Bool := decide ((97 : Int) ≤ (c.toNat : Int)) && decide ((c.toNat : Int) ≤ 122)
def digB (c : UInt8) : Bool := decide ((48 : Int) ≤ (c.toNat : Int)) && decide ((c.toNat : Int) ≤ 57)
def hxB (c : UInt8) : Bool := digB c || (decide ((97 : Int) ≤ (c.toNat : Int)) && decide ((c.toNat : Int) ≤ 102))
def seedB (c : UInt8) : Bool := (lowB c || digB c) || decide (c = 45)
theorem all_yes {p : UInt8 → Bool} {w : Str} (h : ∀ j, j < w.length → p (List.getD w j 0) = true) : w.all p = true := by
  rw [List.all_eq_true]
  intro x hx
  obtain ⟨j, hj, rfl⟩ := List.mem_iff_getElem.1 hx
  have := h j hj
  simpa [List.getD, hj] using this
theorem all_no {p : UInt8 → Bool} {w : Str} {i : Nat} (hi : i < w.length) (h : p (List.getD w i 0) = false) : w.all p = false := by
  rw [Bool.eq_false_iff]
  intro ha
  have := List.all_eq_true.1 ha _ (getD_mem hi)
  rw [h] at this; cases this
theorem all_at {p : UInt8 → Bool} {w : Str} (h : w.all p = true) {i : Nat} (hi : i < w.length) : p (List.getD w i 0) = true := List.all_eq_true.1 h _ (getD_mem hi)
theorem dig_bd {c : UInt8} (h : digB c = true) : 48 ≤ c.toNat ∧ c.toNat ≤ 57 := by simp only [digB, Bool.and_eq_true, decide_eq_true_eq] at h; omega
def isNum (w : Str) : Bool := (w.all digB && decide ((w.length : Int) ≤ 9)) && (!decide (List.getD w 0 0 = 48) || decide (w = [48]))
def numV (w : Str) : Int := if 0 < w.length ∧ isNum w = true then (valN 10 w : Int) else -1
theorem val_dig {w : Str} (hd : w.all digB = true) : ∀ i, i ≤ w.length → valN 10 (w.take i) < 10 ^ i
  | 0, _ => by simp [valN]
  | i + 1, h => by
    have ih := val_dig hd i (by omega)
    have hb := dig_bd (all_at hd (i := i) (by omega))
    rw [take_suc h, valN_app, Nat.pow_succ]
    unfold dgv; rw [if_pos (by omega)]; omega
theorem val_9 {w : Str} (hd : w.all digB = true) (h9 : w.length ≤ 9) {i : Nat} (hi : i ≤ w.length) : valN 10 (w.take i) < 1000000000 :=
  Nat.lt_of_lt_of_le (val_dig hd i hi) (Nat.le_trans (Nat.pow_le_pow_right (by omega) (show i ≤ 9 by omega)) (by decide))
theorem val_step {w : Str} (hd : w.all digB = true) {i : Nat} (h : i < w.length) : valN 10 (w.take (i + 1)) = valN 10 (w.take i) * 10 + (List.getD w i 0 - 48).toNat := by
  have hb := dig_bd (all_at hd h)
  rw [take_suc h, valN_app, u8_sub (d := 48) hb.1]
  unfold dgv; rw [if_pos (by omega)]; rfl
theorem one_48 {w : Str} (h1 : w.length = 1) (h : List.getD w 0 0 = 48) : w = [48] := by
  match w, h1 with
  | [c], _ => simp [List.getD] at h; rw [h]
theorem numV_bad {w : Str} (h : ¬(0 < w.length ∧ isNum w = true)) : numV w = -1 := if_neg h
theorem numV_ok {w : Str} (h0 : 0 < w.length) (h : isNum w = true) : numV w = (valN 10 w : Int) := if_pos ⟨h0, h⟩
theorem numV_le {w : Str} (h0 : 0 < w.length) (m : Int) : (decide (0 ≤ numV w) && decide (numV w ≤ m)) = (isNum w && decide ((valN 10 w : Int) ≤ m)) := by
  unfold numV
  cases hn : isNum w with
  | true => rw [if_pos ⟨h0, rfl⟩, decide_eq_true (by omega)]
  | false => rw [if_neg (fun h => by cases h.2)]; rfl
theorem numV_0 {w : Str} (h0 : 0 < w.length) : decide (0 ≤ numV w) = isNum w := by
  unfold numV
  cases hn : isNum w with
  | true => rw [if_pos ⟨h0, rfl⟩, decide_eq_true (by omega)]
  | false => rw [if_neg (fun h => by cases h.2)]; rfl
end Go.PW
namespace Go.PW
open Enc (enc val)
open Go
structure FaultT where
  line : Int
  at_ : Int
  why : Int
  deriving DecidableEq
def FaultT.parts (s : FaultT) : List Pt := [pt s.line, pt s.at_, pt s.why]
instance : Enc FaultT := ⟨3, fun s => cat s.parts, fun s => .agg ⟨cat s.parts⟩, true, fun s => cat_length s.parts, fun _ => .inl ⟨rfl, rfl⟩, fun s => cat_one s.parts⟩
instance : Flds FaultT := ⟨FaultT.parts, fun _ => rfl⟩
structure CmdH where
  line : Int
  word : Str
  args : SlH
def CmdH.parts (s : CmdH) : List Pt := [pt s.line, pt s.word, pt s.args]
instance : Enc CmdH := ⟨3, fun s => cat s.parts, fun s => .agg ⟨cat s.parts⟩, true, fun s => cat_length s.parts, fun _ => .inl ⟨rfl, rfl⟩, fun s => cat_one s.parts⟩
instance : Flds CmdH := ⟨CmdH.parts, fun _ => rfl⟩
structure WordR where
  at_ : Int
  text : Str
def WordR.parts (s : WordR) : List Pt := [pt s.at_, pt s.text]
instance : Enc WordR := ⟨2, fun s => cat s.parts, fun s => .agg ⟨cat s.parts⟩, true, fun s => cat_length s.parts, fun _ => .inl ⟨rfl, rfl⟩, fun s => cat_one s.parts⟩
instance : Flds WordR := ⟨WordR.parts, fun _ => rfl⟩
structure CmdO where
  line : Nat
  word : Str
  args : List Str
  o : Ow
def CmdO.h (c : CmdO) : CmdH := ⟨c.line, c.word, ⟨c.o.adr, c.args.length, c.o.cap⟩⟩
def CmdO.cm (c : CmdO) : Cm := ⟨c.line, c.word, c.args⟩
def argsS (E : Nat) (L : List CmdO) : Seg := L.flatMap fun c => c.o.seg c.args E
def okL (L : List CmdO) : Prop := ∀ c ∈ L, c.o.ok c.args
theorem okL_app {L : List CmdO} {c : CmdO} (h : okL L) (hc : c.o.ok c.args) : okL (L ++ [c]) := fun x hx => by
  rcases List.mem_append.1 hx with hx | hx
  · exact h x hx
  · rw [List.mem_singleton] at hx; subst hx; exact hc
theorem argsS_app (E : Nat) (L : List CmdO) (c : CmdO) : argsS E (L ++ [c]) = argsS E L ++ c.o.seg c.args E := by simp [argsS]
section
variable {cx : Cx} {md : Md} {ops : Array Oper} {Q : Exit → Act → World → Prop} {rest : List (Oper × Nat)} {base : Nat → Value} {L : List (Nat × Value)} {own ro : List Seg}
variable {q : Nat} {d : Nat} {ty : TypeId} {pos : String} {aft : Array Edge} {x y z : Operand} {xt yt : TypeId}
theorem ldsofG {α : Type} [Enc α] [Flds α] {t bk o E : Nat} {s : Ow} {xs : List α} {i : Nat} (j f : Nat) (a : α) (p : Pt) (hok : s.ok xs) (hx : ev cx.n base L x = .pointer (some ⟨bk, o, none⟩)) (hs : (Src md q own ro)[j]? = some (s.seg xs E))
    (hb : bk = s.b) (ha : xs[i]? = some a) (hp : (Flds.parts a)[f]? = some p) (ho : o = 0 + i * Enc.n α + psum (Flds.parts a) f) (ht : Ty cx.P t p.n p.ag)
    (h : JG cx md ops Q rest base ((d, p.v) :: L) own ro) : JG cx md ops Q ((⟨some d, .load t x, ty, pos, aft, none⟩, q) :: rest) base L own ro := by
  obtain ⟨hi, rfl⟩ := List.getElem?_eq_some_iff.1 ha
  exact ldsof j i f hok hx hs hb hi hp ho ht h
theorem ldvsfG {α : Type} [Enc α] [Flds α] {t bk o : Nat} {s : Vs} {xs : List α} {i : Nat} (j f : Nat) (a : α) (p : Pt) (hok : s.ok xs) (hx : ev cx.n base L x = .pointer (some ⟨bk, o, none⟩)) (hs : (Src md q own ro)[j]? = some (s.seg xs))
    (hb : bk = s.b) (ha : xs[i]? = some a) (hp : (Flds.parts a)[f]? = some p) (ho : o = s.off + i * Enc.n α + psum (Flds.parts a) f) (ht : Ty cx.P t p.n p.ag)
    (h : JG cx md ops Q rest base ((d, p.v) :: L) own ro) : JG cx md ops Q ((⟨some d, .load t x, ty, pos, aft, none⟩, q) :: rest) base L own ro := by
  obtain ⟨hi, rfl⟩ := List.getElem?_eq_some_iff.1 ha
  exact ldvsf j i f hok hx hs hb hi hp ho ht h
end
theorem isNum_dig {w : Str} (h : isNum w = true) : w.all digB = true := by unfold isNum at h; simp only [Bool.and_eq_true] at h; exact h.1.1
theorem isNum_len {w : Str} (h : isNum w = true) : w.length ≤ 9 := by unfold isNum at h; simp only [Bool.and_eq_true, decide_eq_true_eq] at h; omega
end Go.PW
namespace Go.Proofs.YtakbbpahfclgnaaGreatDoor
open Go Go.Proofs Go.PW
open Go.PW.Enc (enc val)
theorem iAtoi_ct (w : Str) (hn : isNum w = true) (h0 : 0 < w.length) : Ct Tryz.prog 135 [strV w] [] [] (fun v o r => v = .tuple #[.int .i64 (valN 10 w : Int), .nilIface] ∧ o = [] ∧ r = []) := by
 have HD := isNum_dig hn
 have H9 := isNum_len hn
 have HB0 := dig_bd (all_at HD h0)
 refine ct_enter Tryz.func135 rfl Tryz.ntmps135 (by kernel_rfl) rfl fun w0 => ?_
 refine csr <| agi rfl <| asg .nilIface rfl <| jsr <| mvs rfl <| lenT (s := w) rfl uy9 <| agi rfl <| jt <| c_seq <| csr <| mvb rfl <| g_off rfl rfl rfl rfl <| g_off rfl rfl rfl rfl <| g_off rfl rfl rfl rfl <| g_und rfl rfl rfl <| g_und rfl rfl rfl <| g_off rfl rfl rfl rfl <| pkf (.bool _) rfl rfl <| mvb rfl <| g_on rfl rfl rfl <| mvb rfl <| g_on rfl rfl rfl <| mvi rfl <| g_on rfl rfl rfl <| cmp true rfl rfl (by simp only [cmpV]; exact congrArg some (decide_eq_true (by omega))) <| g_on rfl rfl rfl <| mvb rfl <| g_on rfl rfl rfl <| mvi rfl <| g_on rfl rfl rfl <| cmp true rfl rfl (by simp only [cmpV]; exact congrArg some (decide_eq_true (by omega))) <| g_on rfl rfl rfl <| pkt (.bool _) rfl rfl <| g_on rfl rfl rfl <| pkt (.bool _) rfl rfl <| pkf (.bool _) rfl rfl ?_
 refine jt <| c_true rfl <| csr <| mvs rfl <| ags rfl <| jt <| c_seq <| csr <| mvs rfl <| idxT (s := w) 0 rfl rfl uy9 rfl (by first | omega | (simp; done) | (simp; omega) | (simp at *; omega)) <| cmp false rfl rfl (by simp only [cmpV]; exact congrArg some (decide_eq_false (by omega))) <| mvb rfl <| g_on rfl rfl rfl <| mvs rfl <| g_on rfl rfl rfl <| idxT (s := w) 0 rfl rfl uy9 rfl (by first | omega | (simp; done) | (simp; omega) | (simp at *; omega)) <| g_on rfl rfl rfl <| cmp false rfl rfl (by simp only [cmpV]; exact congrArg some (decide_eq_false (by omega))) <| pkf (.bool _) rfl rfl <| jt <| c_false rfl <| c_skip <| e_then <| csr <| agi rfl <| jt <| c_seq <| csr <| mvs rfl <| cvSB (s := w) rfl uy9 uy93 uy5 fun c47 hc47 => ⟨trivial, ?_⟩
 refine lenS rfl uy93 <| mvi rfl <| jt <| c_block <| c_loop (σ := Nat × Nat) (fun (i, n) => i ≤ w.length ∧ n = valN 10 (w.take i)) (fun (i, n) => w.length - i) (fun (i, n) => [(49, .int .i64 (i : Int)), (6, .int .i64 (n : Int))]) (fun (i, n) => [c47.seg w 5]) (fun (i, n) => []) [2, 3, 6, 8, 49, 50, 51, 52, 53, 54, 55, 56, 57, 58, 59, 60, 61, 62, 63] (0, 0) (⟨by omega, by simp [valN]⟩) ⟨rfl, rfl, trivial⟩ rfl rfl ?_
 rintro ⟨i, n⟩ g1 hI1
 try dsimp only at hI1 ⊢
 have HV := val_9 HD H9 hI1.1
 have HN := hI1.2
 refine csr <| cmp _ rfl rfl rfl <| jt <| c_seq <| c_cond rfl (fun h1 => ?_) (fun h1 => ?_)
 ·replace h1 := of_decide_eq_true h1
  refine c_skip <| e_then <| c_seq <| c_block <| c_seq ?_
  have HBI := dig_bd (all_at HD (i := i) (by omega))
  have HSU : ((List.getD w i 0) - 48).toNat = (List.getD w i 0).toNat - 48 := u8_sub (d := 48) HBI.1
  refine c_reg <| ixs ((c47).vs) w i (Ow.vs_ok hc47) rfl rfl rfl uy93 ty5.sz rfl (by first | omega | (simp; done) | (simp; omega) | (simp at *; omega)) <| ldsoG 0 (List.getD w i 0) hc47 rfl rfl rfl rfl (getD_some (by first | omega | (simp; done) | (simp; omega) | (simp at *; omega))) ty5 <| agi rfl <| jsr <| mvi rfl <| subU8 (a := (List.getD w i 0)) (b := (48 : UInt8)) rfl rfl <| agi rfl <| jt <| c_seq <| csr <| mvi rfl <| cmp false rfl rfl (by simp only [cmpV]; exact congrArg some (decide_eq_false (by omega))) <| jt <| c_false rfl <| c_skip <| e_then <| c_reg <| mvi rfl <| muli rfl rfl rfl (by omega) <| mvi rfl <| cvI (((List.getD w i 0) - (48 : UInt8)).toNat : Int) rfl uy5 uy3 (wI64 (by have := UInt8.toNat_lt ((List.getD w i 0) - (48 : UInt8)); omega)) <| addi rfl rfl rfl (by omega) <| agi rfl <| jn <| e_in <| e_then <| c_reg <| addi rfl rfl rfl (by omega) <| mvi rfl <| jn ?_
  exact e_loop (i + 1, n * 10 + ((List.getD w i 0) - 48).toNat) (⟨by omega, by rw [val_step HD (by omega), ← HN]⟩) (by show w.length - (i + 1) < w.length - i; omega) (⟨rfl, congrArg (Value.int _) (by omega), trivial⟩) rfl rfl rfl
 ·replace h1 := of_decide_eq_false h1
  refine c_exit rfl <| e_then <| c_seq <| csr <| mvs rfl <| idxT (s := w) 0 rfl rfl uy9 rfl (by first | omega | (simp; done) | (simp; omega) | (simp at *; omega)) <| cmp false rfl rfl (by simp only [cmpV]; exact congrArg some (decide_eq_false (by omega))) <| jt <| c_false rfl <| c_skip <| e_then <| csr <| mvi rfl <| agi rfl <| asg .nilIface rfl <| jt <| c_ret ?_
  exact j_d (own0 := []) (ro0 := []) (.inl rfl) rfl (hr2 Tryz.results135 (rvt (v := (.int _ _)) rfl) (rvt (v := .nilIface) rfl)) [0] [_] rfl (by kernel_rfl) rfl (⟨by rw [HN, show i = w.length by omega, List.take_length], rfl, rfl⟩)
theorem sAtoi_ct (w : Str) (hn : isNum w = true) (h0 : 0 < w.length) : Ct Tryz.prog 111 [strV w] [] [] (fun v o r => v = .tuple #[.int .i64 (valN 10 w : Int), .nilIface] ∧ o = [] ∧ r = []) := by
 refine ct_enter Tryz.func111 rfl Tryz.ntmps111 (by kernel_rfl) rfl fun w0 => ?_
 refine csr <| agi rfl <| asg .nilIface rfl <| jsr <| mvs rfl <| cal (iAtoi_ct w hn h0) [] [] [] rfl rfl rfl (by kernel_rfl) impl_nil rfl ?_; rintro _ _ _ ⟨rfl, rfl, rfl⟩; refine ⟨trivial, ?_⟩
 refine mv (.tuple _) rfl <| xtr (.int _ _) rfl rfl <| xtr .nilIface rfl rfl <| agi rfl <| asg .nilIface rfl <| jt <| c_seq <| csr <| mv .nilIface rfl <| eqnn false rfl uy24 rfl <| jt <| c_false rfl <| c_skip <| e_then <| csr <| mvi rfl <| agi rfl <| asg .nilIface rfl <| jt <| c_ret ?_
 exact j_z (own0 := []) (ro0 := []) (.inl rfl) rfl (hr2 Tryz.results111 (rvt (v := (.int _ _)) rfl) (rvt (v := .nilIface) rfl)) rfl (⟨rfl, rfl, rfl⟩)
end Go.Proofs.YtakbbpahfclgnaaGreatDoor
namespace Go.Proofs.YtakbbpahfclgnaaGreatDoor
open Go Go.Proofs Go.PW
open Go.PW.Enc (enc val)
theorem by9 : (Tryz.prog.info? 9).map (·.bytes) = some 16 := by kernel_rfl
theorem zw9 : Zt Tryz.prog 9 (val (([] : Str) : Str)) := by unfold Zt; kernel_rfl
theorem row_ok {a : List Str} {b n : Nat} (h : a.length = n) : Ow.ok (⟨false, b, n, encs (List.replicate (n - n) ([] : Str))⟩ : Ow) a := by
  refine ⟨by simp, fun _ => ?_, by simp [h]⟩
  simp [encs, h]
theorem slIndexN_ct (t : Str) : Ct Tryz.prog 63 [strV t, strV ([10] : Str)] [] [] (fun v o r => v = .int .i64 (idxB t 10) ∧ o = [] ∧ r = []) := by
 refine ct_enter Tryz.func63 rfl Tryz.ntmps63 (by kernel_rfl) rfl fun w0 => ?_
 refine csr <| agi rfl <| jsr <| mvs rfl <| lenC (s := ([10] : Str)) 1 rfl uy9 rfl <| agi rfl <| jt <| c_seq <| c_block <| csr <| mvi rfl <| cmp false rfl rfl rfl <| mvb rfl <| g_on rfl rfl rfl <| mvs rfl <| g_on rfl rfl rfl <| mvs rfl <| g_on rfl rfl rfl <| scmp (a := ([10] : Str)) (b := t) _ rfl rfl uy9 rfl <| pkf (.bool _) rfl rfl <| agb rfl <| jt <| c_cond rfl (fun h1 => ?_) (fun h1 => ?_)
 ·replace h1 := of_decide_eq_true h1
  refine csr <| agi rfl <| jt <| c_ret ?_
  exact j_z (own0 := []) (ro0 := []) (.inl rfl) rfl (hr1 Tryz.results63 (rvt (v := (.int _ _)) rfl)) rfl (⟨by rw [← h1]; rfl, rfl, rfl⟩)
 ·replace h1 := of_decide_eq_false h1
  refine csr <| mvi rfl <| cmp true rfl rfl rfl <| agb rfl <| jt <| c_true rfl <| csr <| mvs rfl <| mvs rfl <| idxT (s := ([10] : Str)) 0 rfl rfl uy9 rfl (by first | omega | (simp; done) | (simp; omega) | (simp at *; omega)) <| cal (slIndexByte_ct t (List.getD ([10] : Str) 0 0)) [] [] [] rfl rfl rfl (by kernel_rfl) impl_nil rfl ?_; rintro _ _ _ ⟨rfl, rfl, rfl⟩; refine ⟨trivial, ?_⟩
  refine agi rfl <| jt <| c_ret ?_
  exact j_z (own0 := []) (ro0 := []) (.inl rfl) rfl (hr1 Tryz.results63 (rvt (v := (.int _ _)) rfl)) rfl (⟨rfl, rfl, rfl⟩)
end Go.Proofs.YtakbbpahfclgnaaGreatDoor
namespace Go.PW
open Enc (enc val)
open Go
theorem j_nf {cx : Cx} {md : Md} {ops : Array Oper} {Q : Exit → Act → World → Prop} {l : List (Oper × Nat)} {base : Nat → Value} {L : List (Nat × Value)} {own own' ro : List Seg} (e : own = own') (h : JG cx md ops Q l base L own' ro) : JG cx md ops Q l base L own ro := by
  subst e; exact h
def isC : Obj → Prop := fun o => ∃ c E fr, o = .cells c E fr
theorem ck_view0 {o : Obj} (h : isC o) : (Ck.view 0 []).ok o := by
  obtain ⟨c, E, fr, rfl⟩ := h
  exact ⟨c, E, fr, rfl, fun i v hv => by simp at hv⟩
def AsHit (P : Program) (f tp tpp g : Nat) (hv : Value) : Prop :=
  ∀ (e t : Addr) (old : Value) (w : World), w.cell? ⟨g, 0, none⟩ = some hv → w.cell? t = some old → w.frozen? t = false →
    Calls P f #[.iface tp (.pointer (some e)), .iface tpp (.pointer (some t))] w fun ev w' => ev = .returned (.bool true) ∧ ∃ o1 o2 o3 o4, isC o1 ∧ isC o2 ∧ isC o3 ∧ isC o4 ∧ w' = ((((w.alloc o1).alloc o2).alloc o3).alloc o4).setCell t (.pointer (some e))
theorem ct_as {P : Program} {f tp tpp g : Nat} {hv : Value} (he : EnterOk P f) (hit : AsHit P f tp tpp g hv) (a : Addr) (b E : Nat) :
    Ct P f [.iface tp (.pointer (some a)), .iface tpp (.pointer (some ⟨b, 0, none⟩))] [[(b, .cells (cat [p1 (.pointer none)]) E)]] [[(g, .view 0 [hv])]] (fun v o r => v = .bool true ∧ o = [[(b, .cells (cat [p1 (.pointer (some a))]) E)]] ∧ r = []) := by
  refine ⟨he, fun w hw => ?_⟩
  obtain ⟨x, hx, fr, rfl, hfr⟩ := hw.o _ (List.mem_singleton.2 rfl) (b, .cells (cat [p1 (.pointer none)]) E) (List.mem_singleton.2 rfl)
  have hg : w.cell? ⟨g, 0, none⟩ = some hv := by
    have := cellsAt_view (hw.r _ (List.mem_singleton.2 rfl)) (b := g) (o := 0) (off := 0) (c := [hv]) (l := [hv]) (pre := []) (post := []) (List.mem_singleton.2 rfl) rfl rfl
    exact this 0 hv rfl
  have hc : w.cell? ⟨b, 0, none⟩ = some (.pointer none) := by simp only [World.cell?, hx]; rfl
  have hf : w.frozen? ⟨b, 0, none⟩ = false := by
    simp only [World.frozen?, hx]
    have : (cat [p1 (Value.pointer none)]).length = 1 := rfl
    rw [this] at hfr
    rcases hfr with h | h <;> simp <;> omega
  refine (hit a ⟨b, 0, none⟩ _ w hg hc hf).mono ?_
  rintro e w' ⟨rfl, o1, o2, o3, o4, h1, h2, h3, h4, rfl⟩
  have hin : In ⟨w, blks [[(b, Ck.cells (cat [p1 (Value.pointer none)]) E)]], 1⟩ [[(b, .cells (cat [p1 (.pointer none)]) E)]] [[(g, .view 0 [hv])]] w := ⟨hw, Ext.refl _ _, fun b hb => .inl hb, by simp [blks]⟩
  have h5 := (((hin.alloc o1 _ (ck_view0 h1)).alloc o2 _ (ck_view0 h2)).alloc o3 _ (ck_view0 h3)).alloc o4 _ (ck_view0 h4)
  have hb : b < w.heap.size := (Array.getElem?_eq_some_iff.1 hx).1
  refine ⟨_, [[(b, .cells (cat [p1 (.pointer (some a))]) E)]], [], rfl, ⟨rfl, rfl, rfl⟩, ?_⟩
  rw [List.append_nil]
  have hx4 : ((((w.alloc o1).alloc o2).alloc o3).alloc o4).heap[b]? = some (.cells ⟨cat [p1 (.pointer none)]⟩ E fr) := by
    rw [new_old _ _ _ (by simp; omega), new_old _ _ _ (by simp; omega), new_old _ _ _ (by simp; omega), new_old _ _ _ hb]; exact hx
  have h6 := h5.turn (i := 0) (b := b) (k := .cells (cat [p1 (.pointer none)]) E) (k' := .cells (cat [p1 (.pointer (some a))]) E) (w' := ((((w.alloc o1).alloc o2).alloc o3).alloc o4).setCell ⟨b, 0, none⟩ (.pointer (some a))) (o' := .cells ⟨cat [p1 (.pointer (some a))]⟩ E fr) rfl
    (by simp only [World.setCell, Array.getElem?_modify, if_pos, hx4]; rfl) ⟨fr, rfl, hfr⟩ (fun c hc => by simp only [World.setCell, Array.getElem?_modify]; rw [if_neg (fun e => hc e.symm)]) (by simp [World.setCell]) rfl rfl rfl
  refine h6.drop (dr := [[(w.heap.size, .view 0 [])], [((w.alloc o1).heap.size, .view 0 [])], [(((w.alloc o1).alloc o2).heap.size, .view 0 [])], [((((w.alloc o1).alloc o2).alloc o3).heap.size, .view 0 [])]]) (List.Perm.refl _)
end Go.PW
namespace Go.Proofs.YtakbbpahfclgnaaGreatDoor
open Go.RowKit Go.Extern.Stop Go.Stop Go.Extern
theorem Tryz.valueOf27 (t : Addr) (w : World) : (ReflectliteValue.unpack (.iface 53 (.pointer (some t)))).run Tryz.prog w
    = .ok (.agg #[.pointer (some ⟨13, 53, none⟩), .pointer (some ⟨w.heap.size, 0, none⟩), .int .u64 150]) (w.alloc (.cells #[.pointer (some t)] 53)) := by kernel_rfl
theorem Tryz.type27 (a : Addr) (w : World) : (ReflectliteValue.methodAny (ReflectliteValue.valueError "reflectlite.Value.Type" 0) (fun t _ _ _ => ReflectliteType.toType t) #[.agg #[.pointer (some ⟨13, 53, none⟩), .pointer (some a), .int .u64 150]]).run Tryz.prog w
    = .ok (.iface 119 (.agg #[.pointer (some ⟨13, 53, none⟩)])) w := by kernel_rfl
theorem Tryz.methodKind (h : Value) (w : World) : (Go.method 361 119 (.agg #[h]) "Kind").run Tryz.prog w = .ok (185, h) w := by kernel_rfl
theorem Tryz.kind27 (w : World) : ((ReflectliteType.abiMethod fun t => (fun a : Nat => Value.int IntKind.u8 (a : Int)) <$> Rtype.kind t) #[.pointer (some ⟨13, 53, none⟩)]).run Tryz.prog w = .ok (.int .u8 22) w := by kernel_rfl
theorem Tryz.kind25 (w : World) : ((ReflectliteType.abiMethod fun t => (fun a : Nat => Value.int IntKind.u8 (a : Int)) <$> Rtype.kind t) #[.pointer (some ⟨13, 40, none⟩)]).run Tryz.prog w = .ok (.int .u8 22) w := by kernel_rfl
theorem rlm (z : Sem Value) (f : TypeId → Addr → Nat → Nat → Sem Value) (v : Value) :
    ReflectliteValue.method z f #[v] = (do match ← ReflectliteValue.parts v with | none => z | some (t, a, fl) => f t a fl (fl % 32)) := rfl
theorem Tryz.parts27 (a : Addr) (w : World) : (ReflectliteValue.parts (.agg #[.pointer (some ⟨13, 53, none⟩), .pointer (some a), .int .u64 150])).run Tryz.prog w = .ok (some (53, a, 150)) w := by kernel_rfl
theorem Tryz.isNil27 (a p : Addr) (W : World) (ha : W.cell? a = some (.pointer (some p))) :
    (ReflectliteValue.method (ReflectliteValue.valueError "reflectlite.Value.IsNil" 0) ReflectliteValue.isNil #[.agg #[.pointer (some ⟨13, 53, none⟩), .pointer (some a), .int .u64 150]]).run Tryz.prog W = .ok (.bool false) W := by
  rw [rlm]
  simp only [Sem.run_bind, Tryz.parts27, Result.andThen]
  simp [ReflectliteValue.isNil, loadVar, isAgg, underlying, Tryz.underlying53, ha, Result.andThen]
theorem Tryz.methodElem (h : Value) (w : World) : (Go.method 361 119 (.agg #[h]) "Elem").run Tryz.prog w = .ok (197, .agg #[h]) w := by kernel_rfl
theorem Tryz.methodImplements (h : Value) (w : World) : (Go.method 361 119 (.agg #[h]) "Implements").run Tryz.prog w = .ok (198, .agg #[h]) w := by kernel_rfl
theorem Tryz.methodAssignableTo (h : Value) (w : World) : (Go.method 361 119 (.agg #[h]) "AssignableTo").run Tryz.prog w = .ok (195, .agg #[h]) w := by kernel_rfl
theorem Tryz.elem27 (w : World) : (ReflectliteType.method ReflectliteType.elem #[.agg #[.pointer (some ⟨13, 53, none⟩)]]).run Tryz.prog w = .ok (.iface 119 (.agg #[.pointer (some ⟨13, 40, none⟩)])) w := by kernel_rfl
theorem Tryz.implements25 (w : World) : (ReflectliteType.relation "Implements" ReflectliteType.implements_ #[.agg #[.pointer (some ⟨13, 40, none⟩)], .iface 119 (.agg #[.pointer (some ⟨13, 24, none⟩)])]).run Tryz.prog w = .ok (.bool true) w := by kernel_rfl
theorem Tryz.typeOf25 (v : Value) (w : World) : (ReflectliteType.typeOf #[.iface 40 v]).run Tryz.prog w = .ok (.iface 119 (.agg #[.pointer (some ⟨13, 40, none⟩)])) w := by kernel_rfl
theorem Tryz.assignable25 (w : World) : (ReflectliteType.relation "AssignableTo" ReflectliteType.assignableTo #[.agg #[.pointer (some ⟨13, 40, none⟩)], .iface 119 (.agg #[.pointer (some ⟨13, 40, none⟩)])]).run Tryz.prog w = .ok (.bool true) w := by kernel_rfl
theorem Tryz.valueOf25 (e : Addr) (w : World) : (ReflectliteValue.unpack (.iface 40 (.pointer (some e)))).run Tryz.prog w
    = .ok (.agg #[.pointer (some ⟨13, 40, none⟩), .pointer (some ⟨w.heap.size, 0, none⟩), .int .u64 150]) (w.alloc (.cells #[.pointer (some e)] 40)) := by kernel_rfl
theorem Tryz.elemOf27 (w : World) : (Rtype.elem? 53).run Tryz.prog w = .ok (some 40) w := by kernel_rfl
theorem Tryz.mk25 (p : Addr) (w : World) : (ReflectliteValue.mk 40 p ReflectliteValue.flagAddr).run Tryz.prog w = .ok (.agg #[.pointer (some ⟨13, 40, none⟩), .pointer (some p), .int .u64 406]) w := by kernel_rfl
theorem Tryz.elemV27 (a p : Addr) (W : World) (ha : W.cell? a = some (.pointer (some p))) :
    (ReflectliteValue.method (ReflectliteValue.valueError "reflectlite.Value.Elem" 0) ReflectliteValue.elem #[.agg #[.pointer (some ⟨13, 53, none⟩), .pointer (some a), .int .u64 150]]).run Tryz.prog W
      = .ok (.agg #[.pointer (some ⟨13, 40, none⟩), .pointer (some p), .int .u64 406]) W := by
  rw [rlm]
  simp only [Sem.run_bind, Tryz.parts27, Result.andThen]
  simp [ReflectliteValue.elem, loadVar, isAgg, underlying, Tryz.underlying53, ha, Result.andThen, Tryz.elemOf27, Tryz.mk25]
theorem rls (v x : Value) : ReflectliteValue.set #[v, x] = (do
    let (some (dst, a, fl), some (src, b, _)) := (← ReflectliteValue.parts v, ← ReflectliteValue.parts x)
      | unsupported (.noEntry "extern/(internal/reflectlite.Value).Set.zeroValue")
    if fl / ReflectliteValue.flagAddr % 2 == 0 then unsupported (.noEntry "extern/(internal/reflectlite.Value).Set.unaddressable")
    let val ← loadVar src b
    if ← Rtype.directlyAssignable dst src then storeVar dst a val
    else if ← Rtype.implements dst src then
      if (← Rtype.kind src) == 20 then
        match val with
        | .nilIface => unsupported (.noEntry "extern/reflectlite: a nil value of one interface type handed on as a value of another")
        | _ => storeVar dst a val
      else storeVar dst a (.iface src val)
    else panicString ("reflectlite.Set: value of type " ++ (← Rtype.spelt src) ++ " is not assignable to type " ++ (← Rtype.spelt dst))
    pure (.tuple #[])) := rfl
theorem Tryz.parts25a (a : Addr) (w : World) : (ReflectliteValue.parts (.agg #[.pointer (some ⟨13, 40, none⟩), .pointer (some a), .int .u64 406])).run Tryz.prog w = .ok (some (40, a, 406)) w := by kernel_rfl
theorem Tryz.parts25 (a : Addr) (w : World) : (ReflectliteValue.parts (.agg #[.pointer (some ⟨13, 40, none⟩), .pointer (some a), .int .u64 150])).run Tryz.prog w = .ok (some (40, a, 150)) w := by kernel_rfl
theorem Tryz.direct25 (w : World) : (Rtype.directlyAssignable 40 40).run Tryz.prog w = .ok true w := by kernel_rfl
theorem Tryz.set25 (ta b e : Addr) (old : Value) (W : World) (hb : W.cell? b = some (.pointer (some e))) (ht : W.cell? ta = some old) (hf : W.frozen? ta = false) :
    (ReflectliteValue.set #[.agg #[.pointer (some ⟨13, 40, none⟩), .pointer (some ta), .int .u64 406], .agg #[.pointer (some ⟨13, 40, none⟩), .pointer (some b), .int .u64 150]]).run Tryz.prog W
      = .ok (.tuple #[]) (W.setCell ta (.pointer (some e))) := by
  rw [rls]
  simp only [Sem.run_bind, Tryz.parts25a, Tryz.parts25, Result.andThen]
  simp [ReflectliteValue.flagAddr, loadVar, isAgg, underlying, Tryz.underlying40, hb, Result.andThen, Tryz.direct25, storeVar, Value.cells, storeCells, Addr.add]
  rw [run_store Tryz.prog W ta _ _ (by rfl)]
  simp [ht, hf]
set_option maxHeartbeats 4000000 in
theorem as_hit (e t : Addr) (old : Value) (w : World) (hg : w.cell? ⟨0, 0, none⟩ = some (.iface 119 (.agg #[.pointer (some ⟨13, 24, none⟩)]))) (ht0 : w.cell? t = some old) (hf0 : w.frozen? t = false) :
    Calls Tryz.prog 20 #[.iface 40 (.pointer (some e)), .iface 53 (.pointer (some t))] w fun ev w' => ev = .returned (.bool true) ∧ w' = ((((w.alloc (.cells #[.pointer (some t)] 53)).alloc (.cells #[.pointer (some ⟨13, 53, none⟩), .pointer (some ⟨w.heap.size, 0, none⟩), .int .u64 150] 83)).alloc (.cells #[.pointer (some ⟨13, 53, none⟩), .pointer (some ⟨w.heap.size, 0, none⟩), .int .u64 150] 83)).alloc (.cells #[.pointer (some e)] 40)).setCell t (.pointer (some e)) := by
  have h6 := @run_callFunc_extern Tryz.prog 34 _ (fun args => ReflectliteValue.unpack (args.getD 0 (.tuple #[]))) Tryz.func34 (by kernel_rfl) (by kernel_rfl) (by kernel_rfl) (by kernel_rfl)
  have h7 := @run_callFunc_extern Tryz.prog 35 _ (ReflectliteValue.methodAny (ReflectliteValue.valueError "reflectlite.Value.Type" 0) (fun t _ _ _ => ReflectliteType.toType t)) Tryz.func35 (by kernel_rfl) (by kernel_rfl) (by kernel_rfl) (by kernel_rfl)
  have h8 := @run_callFunc_extern Tryz.prog 36 _ (ReflectliteValue.method (ReflectliteValue.valueError "reflectlite.Value.IsNil" 0) ReflectliteValue.isNil) Tryz.func36 (by kernel_rfl) (by kernel_rfl) (by kernel_rfl) (by kernel_rfl)
  have h27 := @run_callFunc_extern Tryz.prog 185 _ (ReflectliteType.abiMethod fun t => do pure (.int .u8 (← Rtype.kind t))) Tryz.func185 (by kernel_rfl) (by kernel_rfl) (by kernel_rfl) (by kernel_rfl)
  have h37 := @run_callFunc_extern Tryz.prog 197 _ (ReflectliteType.method ReflectliteType.elem) Tryz.func197 (by kernel_rfl) (by kernel_rfl) (by kernel_rfl) (by kernel_rfl)
  have h38 := @run_callFunc_extern Tryz.prog 198 _ (ReflectliteType.relation "Implements" ReflectliteType.implements_) Tryz.func198 (by kernel_rfl) (by kernel_rfl) (by kernel_rfl) (by kernel_rfl)
  have h10 := @run_callFunc_extern Tryz.prog 60 _ ReflectliteType.typeOf Tryz.func60 (by kernel_rfl) (by kernel_rfl) (by kernel_rfl) (by kernel_rfl)
  have h35 := @run_callFunc_extern Tryz.prog 195 _ (ReflectliteType.relation "AssignableTo" ReflectliteType.assignableTo) Tryz.func195 (by kernel_rfl) (by kernel_rfl) (by kernel_rfl) (by kernel_rfl)
  have h11 := @run_callFunc_extern Tryz.prog 61 _ (ReflectliteValue.method (ReflectliteValue.valueError "reflectlite.Value.Elem" 0) ReflectliteValue.elem) Tryz.func61 (by kernel_rfl) (by kernel_rfl) (by kernel_rfl) (by kernel_rfl)
  have h12 := @run_callFunc_extern Tryz.prog 62 _ ReflectliteValue.set Tryz.func62 (by kernel_rfl) (by kernel_rfl) (by kernel_rfl) (by kernel_rfl)
  have tO := Tryz.typeOf25
  have mA := Tryz.methodAssignableTo
  have a25 := Tryz.assignable25
  have v25 := Tryz.valueOf25
  have f6 := Tryz.valueOf27
  have f7 := Tryz.type27
  have mK := Tryz.methodKind
  have mE := Tryz.methodElem
  have mI := Tryz.methodImplements
  have k27 := Tryz.kind27
  have k25 := Tryz.kind25
  have e27 := Tryz.elem27
  have i25 := Tryz.implements25
  have n8 := Tryz.isNil27 ⟨w.heap.size, 0, none⟩ t ((w.alloc (.cells #[.pointer (some t)] 53)).alloc (.cells #[.pointer (some ⟨13, 53, none⟩), .pointer (some ⟨w.heap.size, 0, none⟩), .int .u64 150] 83)) (by simp)
  have hlt : 0 < w.heap.size := by
    rcases Nat.eq_zero_or_pos w.heap.size with h0 | h
    · simp [World.cell?, h0] at hg
    · exact h
  have hg2 : ((w.alloc (.cells #[.pointer (some t)] 53)).alloc (.cells #[.pointer (some ⟨13, 53, none⟩), .pointer (some ⟨w.heap.size, 0, none⟩), .int .u64 150] 83)).cell? ⟨0, 0, none⟩ = some (.iface 119 (.agg #[.pointer (some ⟨13, 24, none⟩)])) := by
    rw [World.cell?_alloc_lt _ _ ⟨0, 0, none⟩ (by simp), World.cell?_alloc_lt _ _ ⟨0, 0, none⟩ hlt]; exact hg
  have htl : t.block < w.heap.size := by
    rcases Nat.lt_or_ge t.block w.heap.size with h | h
    · exact h
    · simp [World.cell?, Array.getElem?_eq_none h] at ht0
  have el := Tryz.elemV27 ⟨w.heap.size, 0, none⟩ t (((w.alloc (.cells #[.pointer (some t)] 53)).alloc (.cells #[.pointer (some ⟨13, 53, none⟩), .pointer (some ⟨w.heap.size, 0, none⟩), .int .u64 150] 83)).alloc (.cells #[.pointer (some ⟨13, 53, none⟩), .pointer (some ⟨w.heap.size, 0, none⟩), .int .u64 150] 83)) (by rw [World.cell?_alloc_lt _ _ ⟨w.heap.size, 0, none⟩ (by simp; omega)]; simp)
  have st := Tryz.set25 t ⟨w.heap.size + 1 + 1 + 1, 0, none⟩ e old ((((w.alloc (.cells #[.pointer (some t)] 53)).alloc (.cells #[.pointer (some ⟨13, 53, none⟩), .pointer (some ⟨w.heap.size, 0, none⟩), .int .u64 150] 83)).alloc (.cells #[.pointer (some ⟨13, 53, none⟩), .pointer (some ⟨w.heap.size, 0, none⟩), .int .u64 150] 83)).alloc (.cells #[.pointer (some e)] 40))
    (by rw [World.cell?_alloc_at _ _ _ _ (by simp)]; rfl)
    (by rw [World.cell?_alloc_lt _ _ t (by simp; omega), World.cell?_alloc_lt _ _ t (by simp; omega), World.cell?_alloc_lt _ _ t (by simp; omega), World.cell?_alloc_lt _ _ t htl]; exact ht0)
    (by rw [World.frozen?_alloc_old _ _ t (by simp; omega), World.frozen?_alloc_old _ _ t (by simp; omega), World.frozen?_alloc_old _ _ t (by simp; omega), World.frozen?_alloc_old _ _ t (Nat.ne_of_lt htl)]; exact hf0)
  go_enter Tryz.func20, Tryz.ntmps20
  go_wp2
  refine wp_loop_rounds 1 ?_
  rw [rounds_succ]
  go_wp2
  go_ret
  exact ⟨rfl, rfl⟩
theorem as_asHit : Go.PW.AsHit Tryz.prog 20 40 53 0 (.iface 119 (.agg #[.pointer (some ⟨13, 24, none⟩)])) := fun e t old w hg ht hf =>
  (as_hit e t old w hg ht hf).mono fun ev w' ⟨h1, h2⟩ => ⟨h1, _, _, _, _, ⟨_, _, _, rfl⟩, ⟨_, _, _, rfl⟩, ⟨_, _, _, rfl⟩, ⟨_, _, _, rfl⟩, h2⟩
theorem as_ct (a : Addr) (b E : Nat) : Go.PW.Ct Tryz.prog 20 [.iface 40 (.pointer (some a)), .iface 53 (.pointer (some ⟨b, 0, none⟩))] [[(b, .cells (Go.PW.cat [Go.PW.p1 (.pointer none)]) E)]] [[(0, .view 0 [.iface 119 (.agg #[.pointer (some ⟨13, 24, none⟩)])])]] (fun v o r => v = .bool true ∧ o = [[(b, .cells (Go.PW.cat [Go.PW.p1 (.pointer (some a))]) E)]] ∧ r = []) :=
  Go.PW.ct_as ⟨_, Tryz.func20, by kernel_rfl, by kernel_rfl⟩ as_asHit a b E
theorem errType_row : ((List.range 261).filter fun t => Tryz.prog.rowNamed t [101, 114, 114, 111, 114]) = [24] := by kernel_rfl
end Go.Proofs.YtakbbpahfclgnaaGreatDoor
namespace Go.Proofs.YtakbbpahfclgnaaGreatDoor
open Go Go.Proofs Go.PW
open Go.PW.Enc (enc val)
theorem z9 : Zt Tryz.prog 9 ((pt ([] : Str)).v) := by unfold Zt; kernel_rfl
theorem key9 : KeyT Tryz.prog 9 Str := keyT_str Tryz.underlying9
def lastC : List Str → Bool
  | [] => true
  | k :: r => (decide (k ≠ ([99, 111, 110, 116, 101, 110, 116] : Str)) || r.isEmpty) && lastC r
end Go.Proofs.YtakbbpahfclgnaaGreatDoor
