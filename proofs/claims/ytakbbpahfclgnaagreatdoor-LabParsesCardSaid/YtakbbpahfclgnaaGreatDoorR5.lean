/- Laws of an engine and of the program's functions, gathered. No condition. -/
import Derived.Test.YtakbbpahfclgnaaGreatDoorR4
import Derived.Test.YtakbbpahfclgnaaGreatDoorProg
import Derived.WalkKit
import Derived.LaidEql
import Derived.Stop.Asserts
import Derived.RowKitTokens
open Go.Proofs.Tryz renaming underlying3 → uy3, underlying4 → uy4, underlying5 → uy5, underlying9 → uy9, underlying22 → uy22, underlying24 → uy24, underlying29 → uy29, underlying37 → uy37, underlying39 → uy39, underlying40 → uy40, underlying42 → uy42, underlying46 → uy46, underlying49 → uy49, underlying63 → uy63, underlying93 → uy93, underlying104 → uy104
set_option maxRecDepth 20000
set_option maxHeartbeats 4000000
namespace Go.Proofs.YtakbbpahfclgnaaGreatDoor
open Go Go.Proofs Go.PW
open Go.PW.Enc (enc val)
theorem iAtoi_ct (w : Str) (hn : isNum w = true) (h0 : 0 < w.length) : Ct Tryz.prog 135 [strV w] [] [] (fun v o r => v = .tuple #[.int .i64 (valN 10 w : Int), .nilIface] ∧ o = [] ∧ r = []) := by
 have HD := isNum_dig hn
 have H9 := isNum_len hn
 have HB0 := dig_bd (all_at HD h0)
 refine ct_enter Tryz.func135 rfl Tryz.ntmps135 (by kernel_rfl) rfl fun w0 => ?_
 refine csr <| agi rfl <| asg .nilIface rfl <| jsr <| mvs rfl <| lenT (s := w) rfl uy9 <| agi rfl <| jt <| c_seq <| csr <| mvb rfl <| g_off rfl rfl rfl rfl <| g_off rfl rfl rfl rfl <| g_off rfl rfl rfl rfl <| g_und rfl rfl rfl <| g_und rfl rfl rfl <| g_off rfl rfl rfl rfl <| pkf (.bool _) rfl rfl <| mvb rfl <| g_on rfl rfl rfl <| mvb rfl <| g_on rfl rfl rfl <| mvi rfl <| g_on rfl rfl rfl <| cmp true rfl rfl (by simp only [cmpV]; exact congrArg some (decide_eq_true (by omega))) <| g_on rfl rfl rfl <| mvb rfl <| g_on rfl rfl rfl <| mvi rfl <| g_on rfl rfl rfl <| cmp true rfl rfl (by simp only [cmpV]; exact congrArg some (decide_eq_true (by omega))) <| g_on rfl rfl rfl <| pkt (.bool _) rfl rfl <| g_on rfl rfl rfl <| pkt (.bool _) rfl rfl <| pkf (.bool _) rfl rfl ?_
 refine jt <| c_true rfl <| csr <| mvs rfl <| ags rfl <| jt <| c_seq <| csr <| mvs rfl <| idxT (s := w) 0 rfl rfl uy9 rfl (by first | omega | (simp; done) | (simp; omega) | (simp at *; omega)) <| cmp false rfl rfl (by simp only [cmpV]; exact congrArg some (decide_eq_false (by omega))) <| mvb rfl <| g_on rfl rfl rfl <| mvs rfl <| g_on rfl rfl rfl <| idxT (s := w) 0 rfl rfl uy9 rfl (by first | omega | (simp; done) | (simp; omega) | (simp at *; omega)) <| g_on rfl rfl rfl <| cmp false rfl rfl (by simp only [cmpV]; exact congrArg some (decide_eq_false (by omega))) <| pkf (.bool _) rfl rfl <| jt <| c_false rfl <| c_skip <| e_then <| csr <| agi rfl <| jt <| c_seq <| csr <| mvs rfl <| cvSB (s := w) rfl uy9 uy93 uy5 fun c47 hc47 => ⟨trivial, ?_⟩
 refine lenS rfl uy93 <| mvi rfl <| jt <| c_block <| c_loop (σ := Nat × Nat) (fun (i, n) => i ≤ w.length ∧ n = valN 10 (w.take i)) (fun (i, n) => w.length - i) (fun (i, n) => [(49, .int .i64 (i : Int)), (6, .int .i64 (n : Int))]) (fun (i, n) => [c47.seg w 5]) (fun (i, n) => []) [2, 3, 6, 8, 49, 50, 51, 52, 53, 54, 55, 56, 57, 58, 59, 60, 61, 62, 63] (0, 0) (⟨by omega, by simp [valN]⟩) ⟨rfl, rfl, trivial⟩ rfl rfl ?_
 rintro ⟨i, n⟩ g1 hI1
 try dsimp only at hI1 ⊢
 have HV := val_9 HD H9 hI1.1
 have HN := hI1.2
 refine csr <| cmp _ rfl rfl rfl <| jt <| c_seq <| c_cond rfl (fun h1 => ?_) (fun h1 => ?_)
 ·replace h1 := of_decide_eq_true h1
  refine c_skip <| e_then <| c_seq <| c_block <| c_seq ?_
  have HBI := dig_bd (all_at HD (i := i) (by omega))
  have HSU : ((List.getD w i 0) - 48).toNat = (List.getD w i 0).toNat - 48 := u8_sub (d := 48) HBI.1
  refine c_reg <| ixs ((c47).vs) w i (Ow.vs_ok hc47) rfl rfl rfl uy93 ty5.sz rfl (by first | omega | (simp; done) | (simp; omega) | (simp at *; omega)) <| ldsoG 0 (List.getD w i 0) hc47 rfl rfl rfl rfl (getD_some (by first | omega | (simp; done) | (simp; omega) | (simp at *; omega))) ty5 <| agi rfl <| jsr <| mvi rfl <| subU8 (a := (List.getD w i 0)) (b := (48 : UInt8)) rfl rfl <| agi rfl <| jt <| c_seq <| csr <| mvi rfl <| cmp false rfl rfl (by simp only [cmpV]; exact congrArg some (decide_eq_false (by omega))) <| jt <| c_false rfl <| c_skip <| e_then <| c_reg <| mvi rfl <| muli rfl rfl rfl (by omega) <| mvi rfl <| cvI (((List.getD w i 0) - (48 : UInt8)).toNat : Int) rfl uy5 uy3 (wI64 (by have := UInt8.toNat_lt ((List.getD w i 0) - (48 : UInt8)); omega)) <| addi rfl rfl rfl (by omega) <| agi rfl <| jn <| e_in <| e_then <| c_reg <| addi rfl rfl rfl (by omega) <| mvi rfl <| jn ?_
  exact e_loop (i + 1, n * 10 + ((List.getD w i 0) - 48).toNat) (⟨by omega, by rw [val_step HD (by omega), ← HN]⟩) (by show w.length - (i + 1) < w.length - i; omega) (⟨rfl, congrArg (Value.int _) (by omega), trivial⟩) rfl rfl rfl
 ·replace h1 := of_decide_eq_false h1
  refine c_exit rfl <| e_then <| c_seq <| csr <| mvs rfl <| idxT (s := w) 0 rfl rfl uy9 rfl (by first | omega | (simp; done) | (simp; omega) | (simp at *; omega)) <| cmp false rfl rfl (by simp only [cmpV]; exact congrArg some (decide_eq_false (by omega))) <| jt <| c_false rfl <| c_skip <| e_then <| csr <| mvi rfl <| agi rfl <| asg .nilIface rfl <| jt <| c_ret ?_
  exact j_d (own0 := []) (ro0 := []) (.inl rfl) rfl (hr2 Tryz.results135 (rvt (v := (.int _ _)) rfl) (rvt (v := .nilIface) rfl)) [0] [_] rfl (by kernel_rfl) rfl (⟨by rw [HN, show i = w.length by omega, List.take_length], rfl, rfl⟩)
theorem sAtoi_ct (w : Str) (hn : isNum w = true) (h0 : 0 < w.length) : Ct Tryz.prog 111 [strV w] [] [] (fun v o r => v = .tuple #[.int .i64 (valN 10 w : Int), .nilIface] ∧ o = [] ∧ r = []) := by
 refine ct_enter Tryz.func111 rfl Tryz.ntmps111 (by kernel_rfl) rfl fun w0 => ?_
 refine csr <| agi rfl <| asg .nilIface rfl <| jsr <| mvs rfl <| cal (iAtoi_ct w hn h0) [] [] [] rfl rfl rfl (by kernel_rfl) impl_nil rfl ?_; rintro _ _ _ ⟨rfl, rfl, rfl⟩; refine ⟨trivial, ?_⟩
 refine mv (.tuple _) rfl <| xtr (.int _ _) rfl rfl <| xtr .nilIface rfl rfl <| agi rfl <| asg .nilIface rfl <| jt <| c_seq <| csr <| mv .nilIface rfl <| eqnn false rfl uy24 rfl <| jt <| c_false rfl <| c_skip <| e_then <| csr <| mvi rfl <| agi rfl <| asg .nilIface rfl <| jt <| c_ret ?_
 exact j_z (own0 := []) (ro0 := []) (.inl rfl) rfl (hr2 Tryz.results111 (rvt (v := (.int _ _)) rfl) (rvt (v := .nilIface) rfl)) rfl (⟨rfl, rfl, rfl⟩)
theorem lnumber_ct (w : Str) (hn : isNum w = true) (h0 : 0 < w.length) : Ct Tryz.prog 83 [strV w] [] [] (fun v o r => v = .int .i64 (valN 10 w : Int) ∧ o = [] ∧ r = []) := by
 refine ct_enter Tryz.func83 rfl Tryz.ntmps83 (by kernel_rfl) rfl fun w0 => ?_
 refine csr <| agi rfl <| jsr <| mvs rfl <| cal (sAtoi_ct w hn h0) [] [] [] rfl rfl rfl (by kernel_rfl) impl_nil rfl ?_; rintro _ _ _ ⟨rfl, rfl, rfl⟩; refine ⟨trivial, ?_⟩
 refine mv (.tuple _) rfl <| xtr (.int _ _) rfl rfl <| xtr .nilIface rfl rfl <| agi rfl <| asg .nilIface rfl <| jsr <| mvi rfl <| agi rfl <| jt <| c_ret ?_
 exact j_z (own0 := []) (ro0 := []) (.inl rfl) rfl (hr1 Tryz.results83 (rvt (v := (.int _ _)) rfl)) rfl (⟨rfl, rfl, rfl⟩)
theorem lfits_version (w : Str) (h0 : 0 < w.length) (hw : w.length ≤ 140737488351232) : Ct Tryz.prog 50 [strV ([118, 101, 114, 115, 105, 111, 110] : Str), strV w] [] [] (fun v o r => v = .bool (fit16 118 w) ∧ o = [] ∧ r = []) := by
 refine ct_enter Tryz.func50 rfl Tryz.ntmps50 (by kernel_rfl) rfl fun w0 => ?_
 refine csr <| agb rfl <| jt <| c_seq <| csr <| mvs rfl <| jt <| c_block <| csr <| scmp (a := ([118, 101, 114, 115, 105, 111, 110] : Str)) (b := ([118, 101, 114, 115, 105, 111, 110] : Str)) true rfl rfl uy9 (by decide) <| agb rfl <| jt <| c_true rfl <| csr <| mvs rfl <| scmp (a := w) (b := ([49] : Str)) _ rfl rfl uy9 rfl <| mvb rfl <| jsplit 10 rfl (fun h1 => ?_) (fun h1 => ?_)
 ·replace h1 := of_decide_eq_true h1
  refine g_off rfl rfl rfl rfl <| g_off rfl rfl rfl rfl <| pkt (.bool _) rfl rfl <| agb rfl <| jt <| c_ret ?_
  exact j_z (own0 := []) (ro0 := []) (.inl rfl) rfl (hr1 Tryz.results50 (rvt (v := (.bool _)) rfl)) rfl (⟨congrArg Value.bool (by simp only [fit16]; first | (simp_all; done) | (simp_all; intros; omega)), rfl, rfl⟩)
 ·replace h1 := of_decide_eq_false h1
  refine g_on rfl rfl rfl <| mvs rfl <| g_on rfl rfl rfl <| scmp (a := w) (b := ([50] : Str)) _ rfl rfl uy9 rfl <| pkf (.bool _) rfl rfl <| agb rfl <| jt <| c_ret ?_
  exact j_z (own0 := []) (ro0 := []) (.inl rfl) rfl (hr1 Tryz.results50 (rvt (v := (.bool _)) rfl)) rfl (⟨congrArg Value.bool (by simp only [fit16]; first | (simp_all; done) | (simp_all; intros; omega)), rfl, rfl⟩)
theorem lfits_skip (w : Str) (h0 : 0 < w.length) (hw : w.length ≤ 140737488351232) : Ct Tryz.prog 50 [strV ([115, 107, 105, 112] : Str), strV w] [] [] (fun v o r => v = .bool (fit16 107 w) ∧ o = [] ∧ r = []) := by
 refine ct_enter Tryz.func50 rfl Tryz.ntmps50 (by kernel_rfl) rfl fun w0 => ?_
 refine csr <| agb rfl <| jt <| c_seq <| csr <| mvs rfl <| jt <| c_block <| csr <| scmp (a := ([115, 107, 105, 112] : Str)) (b := ([118, 101, 114, 115, 105, 111, 110] : Str)) false rfl rfl uy9 (by decide) <| agb rfl <| jt <| c_false rfl <| csr <| scmp (a := ([115, 107, 105, 112] : Str)) (b := ([115, 107, 105, 112] : Str)) true rfl rfl uy9 (by decide) <| agb rfl <| jt <| c_true rfl <| csr <| mvs rfl <| cal (isNumber_ct w (by omega) (by omega)) [] [] [] rfl rfl rfl (by kernel_rfl) impl_nil rfl ?_; rintro _ _ _ ⟨rfl, rfl, rfl⟩; refine ⟨trivial, ?_⟩
 refine mvb rfl <| jsplit 18 rfl (fun h1 => ?_) (fun h1 => ?_)
 ·refine g_on rfl rfl rfl <| mvs rfl <| g_on rfl rfl rfl <| cal (lnumber_ct w (by assumption) h0) [] [] [] rfl rfl rfl (by kernel_rfl) impl_nil rfl ?_; rintro _ _ _ ⟨rfl, rfl, rfl⟩; refine ⟨trivial, ?_⟩
  refine g_on rfl rfl rfl <| cmp _ rfl rfl rfl <| pkt (.bool _) rfl rfl <| agb rfl <| jt <| c_ret ?_
  exact j_z (own0 := []) (ro0 := []) (.inl rfl) rfl (hr1 Tryz.results50 (rvt (v := (.bool _)) rfl)) rfl (⟨congrArg Value.bool (by simp only [fit16]; first | (simp_all; done) | (simp_all; intros; omega)), rfl, rfl⟩)
 ·refine g_off rfl rfl rfl rfl <| g_off rfl rfl rfl rfl <| g_off rfl rfl rfl rfl <| pkf (.bool _) rfl rfl <| agb rfl <| jt <| c_ret ?_
  exact j_z (own0 := []) (ro0 := []) (.inl rfl) rfl (hr1 Tryz.results50 (rvt (v := (.bool _)) rfl)) rfl (⟨congrArg Value.bool (by simp only [fit16]; first | (simp_all; done) | (simp_all; intros; omega)), rfl, rfl⟩)
theorem lfits_store (w : Str) (h0 : 0 < w.length) (hw : w.length ≤ 140737488351232) : Ct Tryz.prog 50 [strV ([115, 116, 111, 114, 101] : Str), strV w] [] [] (fun v o r => v = .bool (fit16 116 w) ∧ o = [] ∧ r = []) := by
 refine ct_enter Tryz.func50 rfl Tryz.ntmps50 (by kernel_rfl) rfl fun w0 => ?_
 refine csr <| agb rfl <| jt <| c_seq <| csr <| mvs rfl <| jt <| c_block <| csr <| scmp (a := ([115, 116, 111, 114, 101] : Str)) (b := ([118, 101, 114, 115, 105, 111, 110] : Str)) false rfl rfl uy9 (by decide) <| agb rfl <| jt <| c_false rfl <| csr <| scmp (a := ([115, 116, 111, 114, 101] : Str)) (b := ([115, 107, 105, 112] : Str)) false rfl rfl uy9 (by decide) <| agb rfl <| jt <| c_false rfl <| csr <| scmp (a := ([115, 116, 111, 114, 101] : Str)) (b := ([115, 116, 111, 114, 101] : Str)) true rfl rfl uy9 (by decide) <| agb rfl <| jt <| c_true rfl <| csr <| mvs rfl <| cal (isNumber_ct w (by omega) (by omega)) [] [] [] rfl rfl rfl (by kernel_rfl) impl_nil rfl ?_; rintro _ _ _ ⟨rfl, rfl, rfl⟩; refine ⟨trivial, ?_⟩
 refine mvb rfl <| jsplit 27 rfl (fun h1 => ?_) (fun h1 => ?_)
 ·refine g_on rfl rfl rfl <| mvs rfl <| g_on rfl rfl rfl <| cal (lnumber_ct w (by assumption) h0) [] [] [] rfl rfl rfl (by kernel_rfl) impl_nil rfl ?_; rintro _ _ _ ⟨rfl, rfl, rfl⟩; refine ⟨trivial, ?_⟩
  refine g_on rfl rfl rfl <| cmp _ rfl rfl rfl <| pkt (.bool _) rfl rfl <| agb rfl <| jt <| c_ret ?_
  exact j_z (own0 := []) (ro0 := []) (.inl rfl) rfl (hr1 Tryz.results50 (rvt (v := (.bool _)) rfl)) rfl (⟨congrArg Value.bool (by simp only [fit16]; first | (simp_all; done) | (simp_all; intros; omega)), rfl, rfl⟩)
 ·refine g_off rfl rfl rfl rfl <| g_off rfl rfl rfl rfl <| g_off rfl rfl rfl rfl <| pkf (.bool _) rfl rfl <| agb rfl <| jt <| c_ret ?_
  exact j_z (own0 := []) (ro0 := []) (.inl rfl) rfl (hr1 Tryz.results50 (rvt (v := (.bool _)) rfl)) rfl (⟨congrArg Value.bool (by simp only [fit16]; first | (simp_all; done) | (simp_all; intros; omega)), rfl, rfl⟩)
theorem lfits_number (w : Str) (h0 : 0 < w.length) (hw : w.length ≤ 140737488351232) : Ct Tryz.prog 50 [strV ([110, 117, 109, 98, 101, 114] : Str), strV w] [] [] (fun v o r => v = .bool (fit16 110 w) ∧ o = [] ∧ r = []) := by
 refine ct_enter Tryz.func50 rfl Tryz.ntmps50 (by kernel_rfl) rfl fun w0 => ?_
 refine csr <| agb rfl <| jt <| c_seq <| csr <| mvs rfl <| jt <| c_block <| csr <| scmp (a := ([110, 117, 109, 98, 101, 114] : Str)) (b := ([118, 101, 114, 115, 105, 111, 110] : Str)) false rfl rfl uy9 (by decide) <| agb rfl <| jt <| c_false rfl <| csr <| scmp (a := ([110, 117, 109, 98, 101, 114] : Str)) (b := ([115, 107, 105, 112] : Str)) false rfl rfl uy9 (by decide) <| agb rfl <| jt <| c_false rfl <| csr <| scmp (a := ([110, 117, 109, 98, 101, 114] : Str)) (b := ([115, 116, 111, 114, 101] : Str)) false rfl rfl uy9 (by decide) <| agb rfl <| jt <| c_false rfl <| csr <| scmp (a := ([110, 117, 109, 98, 101, 114] : Str)) (b := ([110, 117, 109, 98, 101, 114] : Str)) true rfl rfl uy9 (by decide) <| agb rfl <| jt <| c_true rfl <| csr <| mvs rfl <| cal (isNumber_ct w (by omega) (by omega)) [] [] [] rfl rfl rfl (by kernel_rfl) impl_nil rfl ?_; rintro _ _ _ ⟨rfl, rfl, rfl⟩; refine ⟨trivial, ?_⟩
 refine agb rfl <| jt <| c_ret ?_
 exact j_z (own0 := []) (ro0 := []) (.inl rfl) rfl (hr1 Tryz.results50 (rvt (v := (.bool _)) rfl)) rfl (⟨congrArg Value.bool (by simp only [fit16]; first | (simp_all; done) | (simp_all; intros; omega)), rfl, rfl⟩)
theorem lfits_side (w : Str) (h0 : 0 < w.length) (hw : w.length ≤ 140737488351232) : Ct Tryz.prog 50 [strV ([115, 105, 100, 101] : Str), strV w] [] [] (fun v o r => v = .bool (fit16 115 w) ∧ o = [] ∧ r = []) := by
 refine ct_enter Tryz.func50 rfl Tryz.ntmps50 (by kernel_rfl) rfl fun w0 => ?_
 refine csr <| agb rfl <| jt <| c_seq <| csr <| mvs rfl <| jt <| c_block <| csr <| scmp (a := ([115, 105, 100, 101] : Str)) (b := ([118, 101, 114, 115, 105, 111, 110] : Str)) false rfl rfl uy9 (by decide) <| agb rfl <| jt <| c_false rfl <| csr <| scmp (a := ([115, 105, 100, 101] : Str)) (b := ([115, 107, 105, 112] : Str)) false rfl rfl uy9 (by decide) <| agb rfl <| jt <| c_false rfl <| csr <| scmp (a := ([115, 105, 100, 101] : Str)) (b := ([115, 116, 111, 114, 101] : Str)) false rfl rfl uy9 (by decide) <| agb rfl <| jt <| c_false rfl <| csr <| scmp (a := ([115, 105, 100, 101] : Str)) (b := ([110, 117, 109, 98, 101, 114] : Str)) false rfl rfl uy9 (by decide) <| agb rfl <| jt <| c_false rfl <| csr <| scmp (a := ([115, 105, 100, 101] : Str)) (b := ([115, 105, 100, 101] : Str)) true rfl rfl uy9 (by decide) <| agb rfl <| jt <| c_true rfl ?_
 refine csr <| mvs rfl <| scmp (a := w) (b := ([97, 108, 105, 99, 101] : Str)) _ rfl rfl uy9 rfl <| mvb rfl <| jsplit 40 rfl (fun h1 => ?_) (fun h1 => ?_)
 ·replace h1 := of_decide_eq_true h1
  refine g_off rfl rfl rfl rfl <| g_off rfl rfl rfl rfl <| pkt (.bool _) rfl rfl <| agb rfl <| jt <| c_ret ?_
  exact j_z (own0 := []) (ro0 := []) (.inl rfl) rfl (hr1 Tryz.results50 (rvt (v := (.bool _)) rfl)) rfl (⟨congrArg Value.bool (by simp only [fit16]; first | (simp_all; done) | (simp_all; intros; omega)), rfl, rfl⟩)
 ·replace h1 := of_decide_eq_false h1
  refine g_on rfl rfl rfl <| mvs rfl <| g_on rfl rfl rfl <| scmp (a := w) (b := ([98, 111, 98] : Str)) _ rfl rfl uy9 rfl <| pkf (.bool _) rfl rfl <| agb rfl <| jt <| c_ret ?_
  exact j_z (own0 := []) (ro0 := []) (.inl rfl) rfl (hr1 Tryz.results50 (rvt (v := (.bool _)) rfl)) rfl (⟨congrArg Value.bool (by simp only [fit16]; first | (simp_all; done) | (simp_all; intros; omega)), rfl, rfl⟩)
theorem lfits_once (w : Str) (h0 : 0 < w.length) (hw : w.length ≤ 140737488351232) : Ct Tryz.prog 50 [strV ([111, 110, 99, 101] : Str), strV w] [] [] (fun v o r => v = .bool (fit16 111 w) ∧ o = [] ∧ r = []) := by
 refine ct_enter Tryz.func50 rfl Tryz.ntmps50 (by kernel_rfl) rfl fun w0 => ?_
 refine csr <| agb rfl <| jt <| c_seq <| csr <| mvs rfl <| jt <| c_block <| csr <| scmp (a := ([111, 110, 99, 101] : Str)) (b := ([118, 101, 114, 115, 105, 111, 110] : Str)) false rfl rfl uy9 (by decide) <| agb rfl <| jt <| c_false rfl <| csr <| scmp (a := ([111, 110, 99, 101] : Str)) (b := ([115, 107, 105, 112] : Str)) false rfl rfl uy9 (by decide) <| agb rfl <| jt <| c_false rfl <| csr <| scmp (a := ([111, 110, 99, 101] : Str)) (b := ([115, 116, 111, 114, 101] : Str)) false rfl rfl uy9 (by decide) <| agb rfl <| jt <| c_false rfl <| csr <| scmp (a := ([111, 110, 99, 101] : Str)) (b := ([110, 117, 109, 98, 101, 114] : Str)) false rfl rfl uy9 (by decide) <| agb rfl <| jt <| c_false rfl <| csr <| scmp (a := ([111, 110, 99, 101] : Str)) (b := ([115, 105, 100, 101] : Str)) false rfl rfl uy9 (by decide) <| agb rfl <| jt <| c_false rfl ?_
 refine csr <| scmp (a := ([111, 110, 99, 101] : Str)) (b := ([111, 110, 99, 101] : Str)) true rfl rfl uy9 (by decide) <| agb rfl <| jt <| c_true rfl <| csr <| mvs rfl <| scmp (a := w) (b := ([111, 110, 99, 101] : Str)) _ rfl rfl uy9 rfl <| mvb rfl <| jsplit 48 rfl (fun h1 => ?_) (fun h1 => ?_)
 ·replace h1 := of_decide_eq_true h1
  refine g_off rfl rfl rfl rfl <| g_off rfl rfl rfl rfl <| pkt (.bool _) rfl rfl <| agb rfl <| jt <| c_ret ?_
  exact j_z (own0 := []) (ro0 := []) (.inl rfl) rfl (hr1 Tryz.results50 (rvt (v := (.bool _)) rfl)) rfl (⟨congrArg Value.bool (by simp only [fit16]; first | (simp_all; done) | (simp_all; intros; omega)), rfl, rfl⟩)
 ·replace h1 := of_decide_eq_false h1
  refine g_on rfl rfl rfl <| mvs rfl <| g_on rfl rfl rfl <| scmp (a := w) (b := ([110, 111, 110, 101] : Str)) _ rfl rfl uy9 rfl <| pkf (.bool _) rfl rfl <| agb rfl <| jt <| c_ret ?_
  exact j_z (own0 := []) (ro0 := []) (.inl rfl) rfl (hr1 Tryz.results50 (rvt (v := (.bool _)) rfl)) rfl (⟨congrArg Value.bool (by simp only [fit16]; first | (simp_all; done) | (simp_all; intros; omega)), rfl, rfl⟩)
theorem lfits_name (w : Str) (h0 : 0 < w.length) (hw : w.length ≤ 140737488351232) : Ct Tryz.prog 50 [strV ([110, 97, 109, 101] : Str), strV w] [] [] (fun v o r => v = .bool (fit16 119 w) ∧ o = [] ∧ r = []) := by
 refine ct_enter Tryz.func50 rfl Tryz.ntmps50 (by kernel_rfl) rfl fun w0 => ?_
 refine csr <| agb rfl <| jt <| c_seq <| csr <| mvs rfl <| jt <| c_block <| csr <| scmp (a := ([110, 97, 109, 101] : Str)) (b := ([118, 101, 114, 115, 105, 111, 110] : Str)) false rfl rfl uy9 (by decide) <| agb rfl <| jt <| c_false rfl <| csr <| scmp (a := ([110, 97, 109, 101] : Str)) (b := ([115, 107, 105, 112] : Str)) false rfl rfl uy9 (by decide) <| agb rfl <| jt <| c_false rfl <| csr <| scmp (a := ([110, 97, 109, 101] : Str)) (b := ([115, 116, 111, 114, 101] : Str)) false rfl rfl uy9 (by decide) <| agb rfl <| jt <| c_false rfl <| csr <| scmp (a := ([110, 97, 109, 101] : Str)) (b := ([110, 117, 109, 98, 101, 114] : Str)) false rfl rfl uy9 (by decide) <| agb rfl <| jt <| c_false rfl <| csr <| scmp (a := ([110, 97, 109, 101] : Str)) (b := ([115, 105, 100, 101] : Str)) false rfl rfl uy9 (by decide) <| agb rfl <| jt <| c_false rfl ?_
 refine csr <| scmp (a := ([110, 97, 109, 101] : Str)) (b := ([111, 110, 99, 101] : Str)) false rfl rfl uy9 (by decide) <| agb rfl <| jt <| c_false rfl <| csr <| scmp (a := ([110, 97, 109, 101] : Str)) (b := ([110, 97, 109, 101] : Str)) true rfl rfl uy9 (by decide) <| agb rfl <| jt <| c_true rfl <| csr <| mvs rfl <| lenT (s := w) rfl uy9 <| cmp _ rfl rfl rfl <| mvb rfl <| jsplit 57 rfl (fun h1 => ?_) (fun h1 => ?_)
 ·replace h1 := of_decide_eq_true h1
  refine g_on rfl rfl rfl <| mvs rfl <| g_on rfl rfl rfl <| cal (lall_ct w 85 lowB f1_ct (by omega)) [] [] [] rfl rfl rfl (by kernel_rfl) impl_nil rfl ?_; rintro _ _ _ ⟨rfl, rfl, rfl⟩; refine ⟨trivial, ?_⟩
  refine pkt (.bool _) rfl rfl <| agb rfl <| jt <| c_ret ?_
  exact j_z (own0 := []) (ro0 := []) (.inl rfl) rfl (hr1 Tryz.results50 (rvt (v := (.bool _)) rfl)) rfl (⟨congrArg Value.bool (by simp only [fit16]; first | (simp_all; done) | (simp_all; intros; omega)), rfl, rfl⟩)
 ·replace h1 := of_decide_eq_false h1
  refine g_off rfl rfl rfl rfl <| g_off rfl rfl rfl rfl <| pkf (.bool _) rfl rfl <| agb rfl <| jt <| c_ret ?_
  exact j_z (own0 := []) (ro0 := []) (.inl rfl) rfl (hr1 Tryz.results50 (rvt (v := (.bool _)) rfl)) rfl (⟨congrArg Value.bool (by simp only [fit16]; first | (simp_all; done) | (simp_all; intros; omega)), rfl, rfl⟩)
theorem lfits_seed (w : Str) (h0 : 0 < w.length) (hw : w.length ≤ 140737488351232) : Ct Tryz.prog 50 [strV ([115, 101, 101, 100] : Str), strV w] [] [] (fun v o r => v = .bool (fit16 100 w) ∧ o = [] ∧ r = []) := by
 refine ct_enter Tryz.func50 rfl Tryz.ntmps50 (by kernel_rfl) rfl fun w0 => ?_
 refine csr <| agb rfl <| jt <| c_seq <| csr <| mvs rfl <| jt <| c_block <| csr <| scmp (a := ([115, 101, 101, 100] : Str)) (b := ([118, 101, 114, 115, 105, 111, 110] : Str)) false rfl rfl uy9 (by decide) <| agb rfl <| jt <| c_false rfl <| csr <| scmp (a := ([115, 101, 101, 100] : Str)) (b := ([115, 107, 105, 112] : Str)) false rfl rfl uy9 (by decide) <| agb rfl <| jt <| c_false rfl <| csr <| scmp (a := ([115, 101, 101, 100] : Str)) (b := ([115, 116, 111, 114, 101] : Str)) false rfl rfl uy9 (by decide) <| agb rfl <| jt <| c_false rfl <| csr <| scmp (a := ([115, 101, 101, 100] : Str)) (b := ([110, 117, 109, 98, 101, 114] : Str)) false rfl rfl uy9 (by decide) <| agb rfl <| jt <| c_false rfl <| csr <| scmp (a := ([115, 101, 101, 100] : Str)) (b := ([115, 105, 100, 101] : Str)) false rfl rfl uy9 (by decide) <| agb rfl <| jt <| c_false rfl ?_
 refine csr <| scmp (a := ([115, 101, 101, 100] : Str)) (b := ([111, 110, 99, 101] : Str)) false rfl rfl uy9 (by decide) <| agb rfl <| jt <| c_false rfl <| csr <| scmp (a := ([115, 101, 101, 100] : Str)) (b := ([110, 97, 109, 101] : Str)) false rfl rfl uy9 (by decide) <| agb rfl <| jt <| c_false rfl <| csr <| scmp (a := ([115, 101, 101, 100] : Str)) (b := ([115, 101, 101, 100] : Str)) true rfl rfl uy9 (by decide) <| agb rfl <| jt <| c_true rfl <| csr <| mvs rfl <| lenT (s := w) rfl uy9 <| cmp _ rfl rfl rfl <| mvb rfl <| jsplit 66 rfl (fun h1 => ?_) (fun h1 => ?_)
 ·replace h1 := of_decide_eq_true h1
  refine g_on rfl rfl rfl <| mvs rfl <| g_on rfl rfl rfl <| cal (lall_ct w 86 seedB f2_ct (by omega)) [] [] [] rfl rfl rfl (by kernel_rfl) impl_nil rfl ?_; rintro _ _ _ ⟨rfl, rfl, rfl⟩; refine ⟨trivial, ?_⟩
  refine pkt (.bool _) rfl rfl <| agb rfl <| jt <| c_ret ?_
  exact j_z (own0 := []) (ro0 := []) (.inl rfl) rfl (hr1 Tryz.results50 (rvt (v := (.bool _)) rfl)) rfl (⟨congrArg Value.bool (by simp only [fit16]; first | (simp_all; done) | (simp_all; intros; omega)), rfl, rfl⟩)
 ·replace h1 := of_decide_eq_false h1
  refine g_off rfl rfl rfl rfl <| g_off rfl rfl rfl rfl <| pkf (.bool _) rfl rfl <| agb rfl <| jt <| c_ret ?_
  exact j_z (own0 := []) (ro0 := []) (.inl rfl) rfl (hr1 Tryz.results50 (rvt (v := (.bool _)) rfl)) rfl (⟨congrArg Value.bool (by simp only [fit16]; first | (simp_all; done) | (simp_all; intros; omega)), rfl, rfl⟩)
theorem lfits_hex (w : Str) (h0 : 0 < w.length) (hw : w.length ≤ 140737488351232) : Ct Tryz.prog 50 [strV ([104, 101, 120] : Str), strV w] [] [] (fun v o r => v = .bool (fit16 104 w) ∧ o = [] ∧ r = []) := by
 refine ct_enter Tryz.func50 rfl Tryz.ntmps50 (by kernel_rfl) rfl fun w0 => ?_
 refine csr <| agb rfl <| jt <| c_seq <| csr <| mvs rfl <| jt <| c_block <| csr <| scmp (a := ([104, 101, 120] : Str)) (b := ([118, 101, 114, 115, 105, 111, 110] : Str)) false rfl rfl uy9 (by decide) <| agb rfl <| jt <| c_false rfl <| csr <| scmp (a := ([104, 101, 120] : Str)) (b := ([115, 107, 105, 112] : Str)) false rfl rfl uy9 (by decide) <| agb rfl <| jt <| c_false rfl <| csr <| scmp (a := ([104, 101, 120] : Str)) (b := ([115, 116, 111, 114, 101] : Str)) false rfl rfl uy9 (by decide) <| agb rfl <| jt <| c_false rfl <| csr <| scmp (a := ([104, 101, 120] : Str)) (b := ([110, 117, 109, 98, 101, 114] : Str)) false rfl rfl uy9 (by decide) <| agb rfl <| jt <| c_false rfl <| csr <| scmp (a := ([104, 101, 120] : Str)) (b := ([115, 105, 100, 101] : Str)) false rfl rfl uy9 (by decide) <| agb rfl <| jt <| c_false rfl ?_
 refine csr <| scmp (a := ([104, 101, 120] : Str)) (b := ([111, 110, 99, 101] : Str)) false rfl rfl uy9 (by decide) <| agb rfl <| jt <| c_false rfl <| csr <| scmp (a := ([104, 101, 120] : Str)) (b := ([110, 97, 109, 101] : Str)) false rfl rfl uy9 (by decide) <| agb rfl <| jt <| c_false rfl <| csr <| scmp (a := ([104, 101, 120] : Str)) (b := ([115, 101, 101, 100] : Str)) false rfl rfl uy9 (by decide) <| agb rfl <| jt <| c_false rfl <| c_skip <| e_in <| e_then <| csr <| mvs rfl <| scmp (a := w) (b := ([45] : Str)) _ rfl rfl uy9 rfl <| mvb rfl <| jsplit 72 rfl (fun h1 => ?_) (fun h1 => ?_)
 ·replace h1 := of_decide_eq_true h1
  refine g_off rfl rfl rfl rfl <| g_off rfl rfl rfl rfl <| g_off rfl rfl rfl rfl <| g_off rfl rfl rfl rfl <| g_off rfl rfl rfl rfl <| g_und rfl rfl rfl <| g_und rfl rfl rfl <| g_off rfl rfl rfl rfl <| pkt (.bool _) rfl rfl <| agb rfl <| jt <| c_ret ?_
  exact j_z (own0 := []) (ro0 := []) (.inl rfl) rfl (hr1 Tryz.results50 (rvt (v := (.bool _)) rfl)) rfl (⟨congrArg Value.bool (by simp only [fit16]; first | (simp_all; done) | (simp_all; intros; omega)), rfl, rfl⟩)
 ·replace h1 := of_decide_eq_false h1
  refine g_on rfl rfl rfl <| mvs rfl <| g_on rfl rfl rfl <| lenT (s := w) rfl uy9 <| g_on rfl rfl rfl <| remn (a := w.length) (b := 2) rfl rfl (by decide) <| g_on rfl rfl rfl <| cmp _ rfl rfl rfl <| g_on rfl rfl rfl <| mvb rfl <| jsplit 77 rfl (fun h2 => ?_) (fun h2 => ?_)
  ·replace h2 := of_decide_eq_true h2
   refine g_on rfl rfl rfl <| mvs rfl <| g_on rfl rfl rfl <| cal (lall_ct w 87 hxB f3_ct (by omega)) [] [] [] rfl rfl rfl (by kernel_rfl) impl_nil rfl ?_; rintro _ _ _ ⟨rfl, rfl, rfl⟩; refine ⟨trivial, ?_⟩
   refine g_on rfl rfl rfl <| pkt (.bool _) rfl rfl <| pkf (.bool _) rfl rfl <| agb rfl <| jt <| c_ret ?_
   exact j_z (own0 := []) (ro0 := []) (.inl rfl) rfl (hr1 Tryz.results50 (rvt (v := (.bool _)) rfl)) rfl (⟨congrArg Value.bool (by simp only [fit16]; first | (simp_all; done) | (simp_all; intros; omega)), rfl, rfl⟩)
  ·replace h2 := of_decide_eq_false h2
   refine g_off rfl rfl rfl rfl <| g_off rfl rfl rfl rfl <| g_on rfl rfl rfl <| pkf (.bool _) rfl rfl <| pkf (.bool _) rfl rfl <| agb rfl <| jt <| c_ret ?_
   exact j_z (own0 := []) (ro0 := []) (.inl rfl) rfl (hr1 Tryz.results50 (rvt (v := (.bool _)) rfl)) rfl (⟨congrArg Value.bool (by simp only [fit16]; first | (simp_all; done) | (simp_all; intros; omega)), rfl, rfl⟩)
theorem lfits_ct (k w : Str) (hk : k ∈ k16.map (·.1)) (hc : k ≠ ([99, 111, 110, 116, 101, 110, 116] : Str)) (h0 : 0 < w.length) (hw : w.length ≤ 140737488351232) : Ct Tryz.prog 50 [strV k, strV w] [] [] (fun v o r => v = .bool (fit16 (kU k) w) ∧ o = [] ∧ r = []) := by
  simp only [k16, List.map_cons, List.map_nil, List.mem_cons, List.not_mem_nil, or_false] at hk
  rcases hk with rfl | rfl | rfl | rfl | rfl | rfl | rfl | rfl | rfl | rfl
  · exact lfits_version w h0 hw
  · exact lfits_skip w h0 hw
  · exact lfits_store w h0 hw
  · exact lfits_number w h0 hw
  · exact lfits_side w h0 hw
  · exact lfits_once w h0 hw
  · exact lfits_name w h0 hw
  · exact lfits_seed w h0 hw
  · exact lfits_hex w h0 hw
  · exact absurd rfl hc
end Go.Proofs.YtakbbpahfclgnaaGreatDoor
namespace Go.Proofs.YtakbbpahfclgnaaGreatDoor
open Go Go.Proofs Go.PW
open Go.PW.Enc (enc val)
theorem by9 : (Tryz.prog.info? 9).map (·.bytes) = some 16 := by kernel_rfl
theorem zw9 : Zt Tryz.prog 9 (val (([] : Str) : Str)) := by unfold Zt; kernel_rfl
theorem row_ok {a : List Str} {b n : Nat} (h : a.length = n) : Ow.ok (⟨false, b, n, encs (List.replicate (n - n) ([] : Str))⟩ : Ow) a := by
  refine ⟨by simp, fun _ => ?_, by simp [h]⟩
  simp [encs, h]
theorem split_go {s t : Str} {a : List Str} {i n : Nat} (h1 : a.length = n) (h2 : i + (splitL t).length = n) (h3 : a.take i ++ splitL t = splitL s) (h4 : t.length ≤ s.length) (hx : idxN t 10 < t.length) :
    (a.set i (List.take (idxN t 10) t)).length = n ∧ i + 1 + (splitL (List.drop (idxN t 10 + 1) t)).length = n ∧ (a.set i (List.take (idxN t 10) t)).take (i + 1) ++ splitL (List.drop (idxN t 10 + 1) t) = splitL s ∧ (List.drop (idxN t 10 + 1) t).length ≤ s.length := by
  have e := splitL_cut hx
  rw [e, List.length_cons] at h2
  have hi : i < a.length := by omega
  refine ⟨by simp [h1], by omega, ?_, by rw [List.length_drop]; omega⟩
  rw [← h3, e]
  have : (a.set i (List.take (idxN t 10) t)).take (i + 1) = a.take i ++ [List.take (idxN t 10) t] := by
    rw [List.take_set, List.take_succ_eq_append_getElem hi, List.set_append_right _ _ (by rw [List.length_take]; exact Nat.min_le_left _ _)]
    simp [Nat.min_eq_left (Nat.le_of_lt hi)]
  rw [this]; simp
theorem split_fin {s t : Str} {a : List Str} {i n : Nat} (h1 : a.length = n) (h2 : i + (splitL t).length = n) (h3 : a.take i ++ splitL t = splitL s) (hx : ¬ idxN t 10 < t.length ∨ n ≤ i + 1) : a.set i t = splitL s ∧ i + 1 = n ∧ i < a.length := by
  have e : splitL t = [t] := by
    rcases hx with hx | hx
    · exact splitL_last hx
    · by_cases h : idxN t 10 < t.length
      · rw [splitL_cut h, List.length_cons] at h2
        have := splitL_pos (t.drop (idxN t 10 + 1)); omega
      · exact splitL_last h
  rw [e] at h2 h3
  have h2' : i + 1 = n := h2
  have hi : i < a.length := by omega
  refine ⟨?_, h2', hi⟩
  rw [← h3, List.set_eq_take_append_cons_drop, if_pos hi, List.drop_of_length_le (by omega)]
theorem sCount_ct (s : Str) (hs : s.length ≤ 140737488351232) : Ct Tryz.prog 48 [strV s, strV ([10] : Str)] [] [] (fun v o r => v = .int .i64 ((s.count 10 : Nat) : Int) ∧ o = [] ∧ r = []) := by
 refine ct_enter Tryz.func48 rfl Tryz.ntmps48 (by kernel_rfl) rfl fun w0 => ?_
 refine csr <| agi rfl <| jt <| c_seq <| csr <| mvs rfl <| lenC (s := ([10] : Str)) 1 rfl uy9 rfl <| cmp false rfl rfl rfl <| jt <| c_false rfl <| c_skip <| e_then <| c_seq <| csr <| mvs rfl <| lenC (s := ([10] : Str)) 1 rfl uy9 rfl <| cmp true rfl rfl rfl <| jt <| c_true rfl <| csr <| mvs rfl <| mvs rfl <| idxT (s := ([10] : Str)) 0 rfl rfl uy9 rfl (by first | omega | (simp; done) | (simp; omega) | (simp at *; omega)) <| xcal (args := [strV s, .int .u8 ((List.getD ([10] : Str) 0 0).toNat : Int)]) (.int .i64 ((List.count (List.getD ([10] : Str) 0 0) s : Nat) : Int)) Tryz.func81 (by kernel_rfl) (by kernel_rfl) (by kernel_rfl) (fun w => run_count s (List.getD ([10] : Str) 0 0) w) (by kernel_rfl) rfl <| agi rfl <| jt <| c_ret ?_
 exact j_z (own0 := []) (ro0 := []) (.inl rfl) rfl (hr1 Tryz.results48 (rvt (v := (.int _ _)) rfl)) rfl (⟨rfl, rfl, rfl⟩)
theorem slIndexN_ct (t : Str) : Ct Tryz.prog 63 [strV t, strV ([10] : Str)] [] [] (fun v o r => v = .int .i64 (idxB t 10) ∧ o = [] ∧ r = []) := by
 refine ct_enter Tryz.func63 rfl Tryz.ntmps63 (by kernel_rfl) rfl fun w0 => ?_
 refine csr <| agi rfl <| jsr <| mvs rfl <| lenC (s := ([10] : Str)) 1 rfl uy9 rfl <| agi rfl <| jt <| c_seq <| c_block <| csr <| mvi rfl <| cmp false rfl rfl rfl <| mvb rfl <| g_on rfl rfl rfl <| mvs rfl <| g_on rfl rfl rfl <| mvs rfl <| g_on rfl rfl rfl <| scmp (a := ([10] : Str)) (b := t) _ rfl rfl uy9 rfl <| pkf (.bool _) rfl rfl <| agb rfl <| jt <| c_cond rfl (fun h1 => ?_) (fun h1 => ?_)
 ·replace h1 := of_decide_eq_true h1
  refine csr <| agi rfl <| jt <| c_ret ?_
  exact j_z (own0 := []) (ro0 := []) (.inl rfl) rfl (hr1 Tryz.results63 (rvt (v := (.int _ _)) rfl)) rfl (⟨by rw [← h1]; rfl, rfl, rfl⟩)
 ·replace h1 := of_decide_eq_false h1
  refine csr <| mvi rfl <| cmp true rfl rfl rfl <| agb rfl <| jt <| c_true rfl <| csr <| mvs rfl <| mvs rfl <| idxT (s := ([10] : Str)) 0 rfl rfl uy9 rfl (by first | omega | (simp; done) | (simp; omega) | (simp at *; omega)) <| cal (slIndexByte_ct t (List.getD ([10] : Str) 0 0)) [] [] [] rfl rfl rfl (by kernel_rfl) impl_nil rfl ?_; rintro _ _ _ ⟨rfl, rfl, rfl⟩; refine ⟨trivial, ?_⟩
  refine agi rfl <| jt <| c_ret ?_
  exact j_z (own0 := []) (ro0 := []) (.inl rfl) rfl (hr1 Tryz.results63 (rvt (v := (.int _ _)) rfl)) rfl (⟨rfl, rfl, rfl⟩)
theorem sIndexN_ct (t : Str) : Ct Tryz.prog 49 [strV t, strV ([10] : Str)] [] [] (fun v o r => v = .int .i64 (idxB t 10) ∧ o = [] ∧ r = []) := by
 refine ct_enter Tryz.func49 rfl Tryz.ntmps49 (by kernel_rfl) rfl fun w0 => ?_
 refine csr <| agi rfl <| jsr <| mvs rfl <| mvs rfl <| cal (slIndexN_ct t) [] [] [] rfl rfl rfl (by kernel_rfl) impl_nil rfl ?_; rintro _ _ _ ⟨rfl, rfl, rfl⟩; refine ⟨trivial, ?_⟩
 refine agi rfl <| jt <| c_ret ?_
 exact j_z (own0 := []) (ro0 := []) (.inl rfl) rfl (hr1 Tryz.results49 (rvt (v := (.int _ _)) rfl)) rfl (⟨rfl, rfl, rfl⟩)
theorem genSplit_ct (s : Str) (hs : s.length ≤ 1000000) : Ct Tryz.prog 27 [strV s, strV ([10] : Str), .int .i64 0, .int .i64 (-1)] [] [] (fun v o r => ∃ o' : Ow, o'.ok (splitL s) ∧ v = .slice o'.adr (splitL s).length o'.cap ∧ o = [o'.seg (splitL s) 9] ∧ r = []) := by
 have HC : s.count 10 ≤ s.length := List.count_le_length
 refine ct_enter Tryz.func27 rfl Tryz.ntmps27 (by kernel_rfl) rfl fun w0 => ?_
 refine csr <| agl rfl <| jt <| c_seq <| csr <| mvi rfl <| cmp false rfl rfl rfl <| jt <| c_false rfl <| c_skip <| e_then <| c_seq <| csr <| mvs rfl <| scmp (a := ([10] : Str)) (b := ([] : Str)) false rfl rfl uy9 (by decide) <| jt <| c_false rfl <| c_skip <| e_then <| c_seq <| csr <| mvi rfl <| cmp true rfl rfl rfl <| jt <| c_true rfl <| c_reg <| mvs rfl <| mvs rfl <| cal (sCount_ct s (by omega)) [] [] [] rfl rfl rfl (by kernel_rfl) impl_nil rfl ?_; rintro _ _ _ ⟨rfl, rfl, rfl⟩; refine ⟨trivial, ?_⟩
 refine addi rfl rfl rfl (by omega) <| agi rfl <| jsr <| mvi rfl <| mvs rfl <| lenT (s := s) rfl uy9 <| addi rfl rfl rfl (by omega) <| mn2 rfl rfl <| j_re 29 (.int .i64 (((s.count 10 + 1) : Nat) : Int)) (congrArg (Value.int _) (by rw [Int.min_eq_left (by omega)]; omega)) <| agi rfl <| jsr <| mvi rfl <| mks (([] : Str) : Str) (s.count 10 + 1) (s.count 10 + 1) rfl rfl (by omega) (by omega) (Nat.le_refl _) uy37 ty9.sz by9 zw9 (by omega) rfl fun b31 => ⟨trivial, ?_⟩
 refine agl rfl <| jsr <| mvi rfl <| subi rfl rfl rfl (by omega) <| agi rfl <| jsr <| agi rfl <| jt <| c_seq <| c_block <| c_loop (σ := Nat × Str × List Str) (fun (i, t, a) => a.length = (s.count 10 + 1) ∧ i + (splitL t).length = (s.count 10 + 1) ∧ a.take i ++ splitL t = splitL s ∧ t.length ≤ s.length) (fun (i, t, a) => t.length + 1) (fun (i, t, a) => [(10, .int .i64 (i : Int)), (0, strV t)]) (fun (i, t, a) => [(⟨false, b31, (s.count 10 + 1), encs (List.replicate ((s.count 10 + 1) - (s.count 10 + 1)) ([] : Str))⟩ : Ow).seg a 9]) (fun (i, t, a) => []) [0, 10, 11, 34, 35, 36, 37, 38, 39, 40, 41, 42, 43, 44, 45, 46, 47, 48, 49, 50, 51, 52, 53, 54, 55, 56, 57] (0, s, List.replicate (s.count 10 + 1) ([] : Str)) (⟨by simp, by rw [Nat.zero_add]; exact split_count s.length s (Nat.le_refl _), by simp, Nat.le_refl _⟩) ⟨rfl, rfl, trivial⟩ rfl rfl ?_
 rintro ⟨i, t, a⟩ g1 hI1
 try dsimp only at hI1 ⊢
 have hal := hI1.1
 have hao : Ow.ok (⟨false, b31, (s.count 10 + 1), encs (List.replicate ((s.count 10 + 1) - (s.count 10 + 1)) ([] : Str))⟩ : Ow) a := row_ok hal
 have HTL := hI1.2.2.2
 have HIX := idxN_le t 10
 refine c_seq <| csr <| mvi rfl <| mvi rfl <| cmp _ rfl rfl rfl <| jt <| c_cond rfl (fun h1 => ?_) (fun h1 => ?_)
 ·replace h1 := of_decide_eq_true h1
  refine c_skip <| e_then <| c_block <| csr <| mvs rfl <| mvs rfl <| cal (sIndexN_ct t) [] [0] [_] rfl rfl rfl (by kernel_rfl) impl_nil rfl ?_; rintro _ _ _ ⟨rfl, rfl, rfl⟩; refine ⟨trivial, ?_⟩
  refine agi rfl <| jt <| c_seq <| csr <| mvi rfl <| cmp _ rfl rfl rfl <| jt <| c_cond rfl (fun h2 => ?_) (fun h2 => ?_)
  ·replace h2 := of_decide_eq_true h2
   refine c_exit rfl <| e_then <| c_seq ?_
   have HF := split_fin hI1.1 hI1.2.1 hI1.2.2.1 (by first | (right; omega) | exact .inl (fun hh => by have := idxN_all (s := t) (c := 10) (by omega); omega))
   have HIL := HF.2.2
   have HIN := HF.2.1
   refine c_reg <| mvl rfl <| mvi rfl <| mvs rfl <| ixs (((⟨false, b31, (s.count 10 + 1), encs (List.replicate ((s.count 10 + 1) - (s.count 10 + 1)) ([] : Str))⟩ : Ow)).vs) a i (Ow.vs_ok hao) rfl hal.symm rfl uy37 ty9.sz rfl (by omega) <| sto 0 i t hao rfl rfl rfl rfl rfl (by omega) ty9 ⟨trivial, ?_⟩
   refine jsr <| mvl rfl <| mvi rfl <| addi rfl rfl rfl (by omega) <| sli (((⟨false, b31, (s.count 10 + 1), encs (List.replicate ((s.count 10 + 1) - (s.count 10 + 1)) ([] : Str))⟩ : Ow)).vs) 0 (i + 1) rfl uy37 ty9.sz rfl (⟨_, rfl⟩) (by omega) (by first | omega | (show _ ≤ List.count 10 s + 1; omega)) (by first | omega | (show _ ≤ List.count 10 s + 1; omega)) <| agl rfl <| jt <| c_ret ?_
   exact j_end (own0 := []) (ro0 := []) (.inl rfl) rfl (hr1 Tryz.results27 (rvt (v := (.slice _ _ _)) rfl)) [0] [] [_] [] [] _ rfl rfl (by kernel_rfl) rfl impl_nil (⟨(⟨false, b31, (s.count 10 + 1), encs (List.replicate ((s.count 10 + 1) - (s.count 10 + 1)) ([] : Str))⟩ : Ow), (by rw [← HF.1]; exact Ow.ok_set hao i t), by rw [← HF.1, List.length_set, hal, HIN]; rfl, by rw [HF.1], rfl⟩)
  ·replace h2 := of_decide_eq_false h2
   refine c_skip <| e_then <| c_seq ?_
   have HJ := idxB_lt (s := t) (c := 10) (by omega)
   have HK := idxB_at (s := t) (c := 10) (by omega)
   refine c_reg <| mvl rfl <| mvi rfl <| mvs rfl <| mvi rfl <| mvi rfl <| addi rfl rfl rfl (by omega) <| cutT (s := t) 0 (idxN t 10) rfl uy9 rfl ⟨_, congrArg (Value.int _) (by omega)⟩ (by first | omega | (simp; done) | (simp; omega)) (by first | omega | (simp; done) | (simp; omega)) (List.take (idxN t 10) t) (cut_lo _ _) <| ixs (((⟨false, b31, (s.count 10 + 1), encs (List.replicate ((s.count 10 + 1) - (s.count 10 + 1)) ([] : Str))⟩ : Ow)).vs) a i (Ow.vs_ok hao) rfl hal.symm rfl uy37 ty9.sz rfl (by omega) <| sto 0 i (List.take (idxN t 10) t) hao rfl rfl rfl rfl rfl (by omega) ty9 ⟨trivial, ?_⟩
   refine jsr <| mvs rfl <| mvi rfl <| mvs rfl <| lenC (s := ([10] : Str)) 1 rfl uy9 rfl <| addi rfl rfl rfl (by omega) <| cutT (s := t) (idxN t 10 + 1) t.length rfl uy9 ⟨_, congrArg (Value.int _) (by omega)⟩ rfl (by first | omega | (simp; done) | (simp; omega)) (by first | omega | (simp; done) | (simp; omega)) (List.drop (idxN t 10 + 1) t) (cut_hi _ _) <| ags rfl <| jr <| mvi rfl <| addi rfl rfl rfl (by omega) <| agi rfl <| jn <| e_in ?_
   exact e_loop (i + 1, List.drop (idxN t 10 + 1) t, a.set i (List.take (idxN t 10) t)) (split_go hI1.1 hI1.2.1 hI1.2.2.1 hI1.2.2.2 HJ) (by show (List.drop (idxN t 10 + 1) t).length + 1 < t.length + 1; rw [List.length_drop]; omega) (⟨rfl, rfl, trivial⟩) rfl rfl rfl
 ·replace h1 := of_decide_eq_false h1
  refine c_exit rfl <| e_then <| c_seq ?_
  have HF := split_fin hI1.1 hI1.2.1 hI1.2.2.1 (by first | (right; omega) | exact .inl (fun hh => by have := idxN_all (s := t) (c := 10) (by omega); omega))
  have HIL := HF.2.2
  have HIN := HF.2.1
  refine c_reg <| mvl rfl <| mvi rfl <| mvs rfl <| ixs (((⟨false, b31, (s.count 10 + 1), encs (List.replicate ((s.count 10 + 1) - (s.count 10 + 1)) ([] : Str))⟩ : Ow)).vs) a i (Ow.vs_ok hao) rfl hal.symm rfl uy37 ty9.sz rfl (by omega) <| sto 0 i t hao rfl rfl rfl rfl rfl (by omega) ty9 ⟨trivial, ?_⟩
  refine jsr <| mvl rfl <| mvi rfl <| addi rfl rfl rfl (by omega) <| sli (((⟨false, b31, (s.count 10 + 1), encs (List.replicate ((s.count 10 + 1) - (s.count 10 + 1)) ([] : Str))⟩ : Ow)).vs) 0 (i + 1) rfl uy37 ty9.sz rfl (⟨_, rfl⟩) (by omega) (by first | omega | (show _ ≤ List.count 10 s + 1; omega)) (by first | omega | (show _ ≤ List.count 10 s + 1; omega)) <| agl rfl <| jt <| c_ret ?_
  exact j_end (own0 := []) (ro0 := []) (.inl rfl) rfl (hr1 Tryz.results27 (rvt (v := (.slice _ _ _)) rfl)) [0] [] [_] [] [] _ rfl rfl (by kernel_rfl) rfl impl_nil (⟨(⟨false, b31, (s.count 10 + 1), encs (List.replicate ((s.count 10 + 1) - (s.count 10 + 1)) ([] : Str))⟩ : Ow), (by rw [← HF.1]; exact Ow.ok_set hao i t), by rw [← HF.1, List.length_set, hal, HIN]; rfl, by rw [HF.1], rfl⟩)
end Go.Proofs.YtakbbpahfclgnaaGreatDoor
namespace Go.Proofs.YtakbbpahfclgnaaGreatDoor
open Go Go.Proofs Go.PW
open Go.PW.Enc (enc val)
theorem next_fin {s : Str} {p q r : Nat} (hk : skp s p = q) (hq : q ≤ s.length) (h2 : r + wlen s r = q + wlen s q) (hr : wlen s r = 0) : (wordsL s p = (q, word s q) :: wordsL s (q + wlen s q) ∧ 1 ≤ wlen s q ∧ q + wlen s q ≤ s.length ∧ r = q + wlen s q ∧ List.take (r - q) (List.drop q s) = word s q ∧ decide ((q : Int) < (r : Int)) = true) ∨ (wordsL s p = [] ∧ r = q ∧ List.take (r - q) (List.drop q s) = [] ∧ decide ((q : Int) < (r : Int)) = false) := by
  obtain rfl : r = q + wlen s q := by omega
  by_cases hl : q < s.length
  · have hw := words_in hk hl
    exact .inl ⟨hw.1, hw.2.1, hw.2.2, rfl, by rw [show q + wlen s q - q = wlen s q by omega]; rfl, decide_eq_true (by omega)⟩
  · have h0 := wlen_out hl
    exact .inr ⟨words_out hk hl, by omega, by rw [h0, Nat.add_zero, Nat.sub_self]; rfl, decide_eq_false (by omega)⟩
theorem sSplit_ct (s : Str) (hs : s.length ≤ 1000000) : Ct Tryz.prog 15 [strV s, strV ([10] : Str)] [] [] (fun v o r => ∃ o' : Ow, o'.ok (splitL s) ∧ v = .slice o'.adr (splitL s).length o'.cap ∧ o = [o'.seg (splitL s) 9] ∧ r = []) := by
 refine ct_enter Tryz.func15 rfl Tryz.ntmps15 (by kernel_rfl) rfl fun w0 => ?_
 refine csr <| agl rfl <| jsr <| mvs rfl <| mvs rfl <| cal (genSplit_ct s (by omega)) [] [] [] rfl rfl rfl (by kernel_rfl) impl_nil rfl ?_; rintro _ _ _ ⟨os1, hos1, rfl, rfl, rfl⟩; refine ⟨trivial, ?_⟩
 refine agl rfl <| jt <| c_ret ?_
 exact j_end (own0 := []) (ro0 := []) (.inl rfl) rfl (hr1 Tryz.results15 (rvt (v := (.slice _ _ _)) rfl)) [0] [] [_] [] [] _ rfl rfl (by kernel_rfl) rfl impl_nil (⟨os1, hos1, rfl, rfl, rfl⟩)
theorem next_ct (b : Nat) (s : Str) (p : Nat) (hs : s.length ≤ 1000000) (hp : p ≤ s.length) : Ct Tryz.prog 28 [.pointer (some ⟨b, 0, none⟩)] [[(b, .cells (cat [pt s, p1 (.int .i64 ((p : Nat) : Int))]) 63)]] [] (fun v o r => (∃ a : Nat, wordsL s p = (a, word s a) :: wordsL s (a + wlen s a) ∧ 1 ≤ wlen s a ∧ a + wlen s a ≤ s.length ∧ v = .tuple #[strV (word s a), .int .i64 (a : Int), .bool true] ∧ o = [[(b, .cells (cat [pt s, p1 (.int .i64 (((a + wlen s a) : Nat) : Int))]) 63)]] ∧ r = []) ∨ (∃ a : Nat, wordsL s p = [] ∧ a ≤ s.length ∧ v = .tuple #[strV [], .int .i64 (a : Int), .bool false] ∧ o = [[(b, .cells (cat [pt s, p1 (.int .i64 ((a : Nat) : Int))]) 63)]] ∧ r = [])) := by
 refine ct_enter Tryz.func28 rfl Tryz.ntmps28 (by kernel_rfl) rfl fun w0 => ?_
 refine csr <| ags rfl <| agi rfl <| agb rfl <| jt <| c_seq <| c_block <| c_loop (σ := Nat) (fun q => p ≤ q ∧ q ≤ s.length ∧ skp s q = skp s p) (fun q => s.length - q) (fun q => []) (fun q => [[(b, .cells (cat [pt s, p1 (.int .i64 ((q : Nat) : Int))]) 63)]]) (fun q => []) [6, 7, 8, 9, 10, 11, 12, 13, 14, 15, 16, 17, 18, 19, 20, 21, 22, 23, 24, 25, 26, 27, 28, 29, 30, 31, 32, 33, 34] p (⟨Nat.le_refl _, hp, rfl⟩) trivial rfl rfl ?_
 rintro q g1 hI1
 try dsimp only at hI1 ⊢
 refine c_seq <| c_seq <| c_dr [_] [] [(0, 0), (1, 0), (2, 0), (3, 0), (4, 0), (5, 0), (6, 0), (7, 0), (8, 0), (9, 0), (10, 0), (11, 0), (12, 0), (13, 0), (14, 0), (15, 0), (16, 0), (17, 0), (18, 0), (19, 0), (20, 0), (21, 0)] follows (by kernel_rfl) calm_body (keepS [0] rfl) <| mvp rfl <| nlc rfl <| fad rfl uy63 rfl ty3.sz <| ldp 0 1 _ rfl rfl rfl rfl ty3 <| mvp rfl <| nlc rfl <| fad rfl uy63 rfl ty9.sz <| ldp 0 0 _ rfl rfl rfl rfl ty9 <| lenT (s := s) rfl uy9 <| cmp _ rfl rfl rfl <| mvb rfl <| jsplit 16 rfl (fun h1 => ?_) (fun h1 => ?_)
 ·replace h1 := of_decide_eq_true h1
  refine g_on rfl rfl rfl <| mvp rfl <| g_on rfl rfl rfl <| nlc rfl <| g_on rfl rfl rfl <| fad rfl uy63 rfl ty9.sz <| g_on rfl rfl rfl <| ldp 0 0 _ rfl rfl rfl rfl ty9 <| g_on rfl rfl rfl <| mvp rfl <| g_on rfl rfl rfl <| nlc rfl <| g_on rfl rfl rfl <| fad rfl uy63 rfl ty3.sz <| g_on rfl rfl rfl <| ldp 0 1 _ rfl rfl rfl rfl ty3 <| g_on rfl rfl rfl <| idxT (s := s) q rfl rfl uy9 rfl (by first | omega | (simp; done) | (simp; omega) | (simp at *; omega)) <| g_on rfl rfl rfl <| equ8 (a := (List.getD s q 0)) (b := (32 : UInt8)) _ rfl rfl rfl <| pkt (.bool _) rfl rfl <| jt <| c_cond rfl (fun h2 => ?_) (fun h2 => ?_)
  ·replace h2 := of_decide_eq_true h2
   refine c_skip <| e_then <| c_block <| c_reg <| mvp rfl <| nlc rfl <| fad rfl uy63 rfl ty3.sz <| ldp 0 1 _ rfl rfl rfl rfl ty3 <| addi rfl rfl rfl (by omega) <| nlc rfl <| fad rfl uy63 rfl ty3.sz <| stp 0 1 _ (p1 (.int .i64 (((q : Nat) : Int) + 1))) rfl rfl rfl rfl rfl rfl ty3 ⟨trivial, ?_⟩
   refine jn <| e_in ?_
   exact e_loop (q + 1) (⟨by omega, by omega, by rw [skp_step (by omega) (by assumption)]; exact hI1.2.2⟩) (by show s.length - (q + 1) < s.length - q; omega) trivial rfl rfl rfl
  ·replace h2 := of_decide_eq_false h2
   refine c_exit rfl <| e_then <| csr <| mvp rfl <| nlc rfl <| fad rfl uy63 rfl ty3.sz <| ldp 0 1 _ rfl rfl rfl rfl ty3 <| agi rfl <| jt <| c_seq <| c_block <| c_loop (σ := Nat) (fun r => q ≤ r ∧ r ≤ s.length ∧ r + wlen s r = q + wlen s q) (fun r => s.length - r) (fun r => []) (fun r => [[(b, .cells (cat [pt s, p1 (.int .i64 ((r : Nat) : Int))]) 63)]]) (fun r => []) [39, 40, 41, 42, 43, 44, 45, 46, 47, 48, 49, 50, 51, 52, 53, 54, 55, 56, 57, 58, 59, 60, 61, 62, 63, 64, 65, 66, 67] q (⟨Nat.le_refl _, by omega, rfl⟩) trivial rfl rfl ?_
   rintro r g2 hI2
   try dsimp only at hI2 ⊢
   refine c_seq <| c_seq <| c_dr [_] [] [(0, 0), (1, 0), (2, 0), (3, 0), (4, 0), (5, 0), (6, 0), (7, 0), (8, 0), (9, 0), (10, 0), (11, 0), (12, 0), (13, 0), (14, 0), (15, 0), (16, 0), (17, 0), (18, 0), (19, 0), (20, 0), (21, 0)] follows (by kernel_rfl) calm_body (keepS [0] rfl) <| mvp rfl <| nlc rfl <| fad rfl uy63 rfl ty3.sz <| ldp 0 1 _ rfl rfl rfl rfl ty3 <| mvp rfl <| nlc rfl <| fad rfl uy63 rfl ty9.sz <| ldp 0 0 _ rfl rfl rfl rfl ty9 <| lenT (s := s) rfl uy9 <| cmp _ rfl rfl rfl <| mvb rfl <| jsplit 49 rfl (fun h3 => ?_) (fun h3 => ?_)
   ·replace h3 := of_decide_eq_true h3
    refine g_on rfl rfl rfl <| mvp rfl <| g_on rfl rfl rfl <| nlc rfl <| g_on rfl rfl rfl <| fad rfl uy63 rfl ty9.sz <| g_on rfl rfl rfl <| ldp 0 0 _ rfl rfl rfl rfl ty9 <| g_on rfl rfl rfl <| mvp rfl <| g_on rfl rfl rfl <| nlc rfl <| g_on rfl rfl rfl <| fad rfl uy63 rfl ty3.sz <| g_on rfl rfl rfl <| ldp 0 1 _ rfl rfl rfl rfl ty3 <| g_on rfl rfl rfl <| idxT (s := s) r rfl rfl uy9 rfl (by first | omega | (simp; done) | (simp; omega) | (simp at *; omega)) <| g_on rfl rfl rfl <| equ8 (a := (List.getD s r 0)) (b := (32 : UInt8)) _ rfl rfl rfl <| pkt (.bool _) rfl rfl <| jt <| c_cond rfl (fun h4 => ?_) (fun h4 => ?_)
    ·replace h4 := ndt h4
     refine c_skip <| e_then <| c_block <| c_reg <| mvp rfl <| nlc rfl <| fad rfl uy63 rfl ty3.sz <| ldp 0 1 _ rfl rfl rfl rfl ty3 <| addi rfl rfl rfl (by omega) <| nlc rfl <| fad rfl uy63 rfl ty3.sz <| stp 0 1 _ (p1 (.int .i64 (((r : Nat) : Int) + 1))) rfl rfl rfl rfl rfl rfl ty3 ⟨trivial, ?_⟩
     refine jn <| e_in ?_
     exact e_loop (r + 1) (⟨by omega, by omega, by have := wlen_step (s := s) (i := r) (by omega) (by assumption); omega⟩) (by show s.length - (r + 1) < s.length - r; omega) trivial rfl rfl rfl
    ·replace h4 := ndf h4
     refine c_exit rfl <| e_then <| c_seq <| c_dr [_] [] [(0, 0), (1, 0), (2, 0), (3, 0), (4, 0), (5, 0), (6, 0), (7, 0), (8, 0), (9, 0), (10, 0), (11, 0), (12, 0), (13, 0), (14, 0), (15, 0), (16, 0), (17, 0), (18, 0), (19, 0)] follows (by kernel_rfl) calm_body (keepS [0] rfl) <| mvp rfl <| nlc rfl <| fad rfl uy63 rfl ty9.sz <| ldp 0 0 _ rfl rfl rfl rfl ty9 <| mvi rfl <| mvp rfl <| nlc rfl <| fad rfl uy63 rfl ty3.sz <| ldp 0 1 _ rfl rfl rfl rfl ty3 <| cutT (s := s) q r rfl uy9 ⟨_, rfl⟩ ⟨_, rfl⟩ (by first | omega | (simp; done) | (simp; omega)) (by first | omega | (simp; done) | (simp; omega)) (List.take (r - q) (List.drop q s)) rfl <| mvi rfl <| mvp rfl <| nlc rfl <| fad rfl uy63 rfl ty3.sz <| ldp 0 1 _ rfl rfl rfl rfl ty3 <| mvi rfl <| cmp _ rfl rfl rfl <| ags rfl <| agi rfl <| agb rfl <| jt <| c_ret ?_
     exact j_end (own0 := [[(b, .cells (cat [pt s, p1 (.int .i64 ((p : Nat) : Int))]) 63)]]) (ro0 := []) (.inl rfl) rfl (hr3 Tryz.results28 (rvt (v := (.string _)) rfl) (rvt (v := (.int _ _)) rfl) (rvt (v := (.bool _)) rfl)) [0] [] [_] [] [] _ rfl rfl (by kernel_rfl) rfl impl_nil (by have hr : wlen s r = 0 := wlen_end (fun hh => by first | omega | exact hh.2 (by assumption)); have hk : skp s p = q := (by rw [← hI1.2.2]; exact skp_end (fun hh => by first | omega | exact absurd hh.2 (by assumption))); rcases next_fin hk hI1.2.1 hI2.2.2 hr with ⟨e1, e2, e3, rfl, e5, e6⟩ | ⟨e1, rfl, e3, e4⟩; exact .inl ⟨q, e1, e2, e3, by rw [e5, e6], rfl, rfl⟩; exact .inr ⟨_, e1, hI1.2.1, by rw [e3, e4], rfl, rfl⟩)
   ·replace h3 := of_decide_eq_false h3
    refine g_off rfl rfl rfl rfl <| g_off rfl rfl rfl rfl <| g_off rfl rfl rfl rfl <| g_off rfl rfl rfl rfl <| g_off rfl rfl rfl rfl <| g_off rfl rfl rfl rfl <| g_off rfl rfl rfl rfl <| g_off rfl rfl rfl rfl <| g_off rfl rfl rfl rfl <| g_off rfl rfl rfl rfl <| pkf (.bool _) rfl rfl <| jt <| c_false rfl <| c_exit rfl <| e_then <| c_seq <| c_dr [_] [] [(0, 0), (1, 0), (2, 0), (3, 0), (4, 0), (5, 0), (6, 0), (7, 0), (8, 0), (9, 0), (10, 0), (11, 0), (12, 0), (13, 0), (14, 0), (15, 0), (16, 0), (17, 0), (18, 0), (19, 0)] follows (by kernel_rfl) calm_body (keepS [0] rfl) <| mvp rfl <| nlc rfl <| fad rfl uy63 rfl ty9.sz <| ldp 0 0 _ rfl rfl rfl rfl ty9 <| mvi rfl <| mvp rfl <| nlc rfl <| fad rfl uy63 rfl ty3.sz <| ldp 0 1 _ rfl rfl rfl rfl ty3 <| cutT (s := s) q r rfl uy9 ⟨_, rfl⟩ ⟨_, rfl⟩ (by first | omega | (simp; done) | (simp; omega)) (by first | omega | (simp; done) | (simp; omega)) (List.take (r - q) (List.drop q s)) rfl <| mvi rfl <| mvp rfl <| nlc rfl <| fad rfl uy63 rfl ty3.sz <| ldp 0 1 _ rfl rfl rfl rfl ty3 <| mvi rfl <| cmp _ rfl rfl rfl <| ags rfl <| agi rfl <| agb rfl <| jt <| c_ret ?_
    exact j_end (own0 := [[(b, .cells (cat [pt s, p1 (.int .i64 ((p : Nat) : Int))]) 63)]]) (ro0 := []) (.inl rfl) rfl (hr3 Tryz.results28 (rvt (v := (.string _)) rfl) (rvt (v := (.int _ _)) rfl) (rvt (v := (.bool _)) rfl)) [0] [] [_] [] [] _ rfl rfl (by kernel_rfl) rfl impl_nil (by have hr : wlen s r = 0 := wlen_end (fun hh => by first | omega | exact hh.2 (by assumption)); have hk : skp s p = q := (by rw [← hI1.2.2]; exact skp_end (fun hh => by first | omega | exact absurd hh.2 (by assumption))); rcases next_fin hk hI1.2.1 hI2.2.2 hr with ⟨e1, e2, e3, rfl, e5, e6⟩ | ⟨e1, rfl, e3, e4⟩; exact .inl ⟨q, e1, e2, e3, by rw [e5, e6], rfl, rfl⟩; exact .inr ⟨_, e1, hI1.2.1, by rw [e3, e4], rfl, rfl⟩)
 ·replace h1 := of_decide_eq_false h1
  refine g_off rfl rfl rfl rfl <| g_off rfl rfl rfl rfl <| g_off rfl rfl rfl rfl <| g_off rfl rfl rfl rfl <| g_off rfl rfl rfl rfl <| g_off rfl rfl rfl rfl <| g_off rfl rfl rfl rfl <| g_off rfl rfl rfl rfl <| g_off rfl rfl rfl rfl <| g_off rfl rfl rfl rfl <| pkf (.bool _) rfl rfl <| jt <| c_false rfl <| c_exit rfl <| e_then <| csr <| mvp rfl <| nlc rfl <| fad rfl uy63 rfl ty3.sz <| ldp 0 1 _ rfl rfl rfl rfl ty3 <| agi rfl <| jt <| c_seq <| c_block <| c_loop (σ := Nat) (fun r => q ≤ r ∧ r ≤ s.length ∧ r + wlen s r = q + wlen s q) (fun r => s.length - r) (fun r => []) (fun r => [[(b, .cells (cat [pt s, p1 (.int .i64 ((r : Nat) : Int))]) 63)]]) (fun r => []) [39, 40, 41, 42, 43, 44, 45, 46, 47, 48, 49, 50, 51, 52, 53, 54, 55, 56, 57, 58, 59, 60, 61, 62, 63, 64, 65, 66, 67] q (⟨Nat.le_refl _, by omega, rfl⟩) trivial rfl rfl ?_
  rintro r g2 hI2
  try dsimp only at hI2 ⊢
  refine c_seq <| c_seq <| c_dr [_] [] [(0, 0), (1, 0), (2, 0), (3, 0), (4, 0), (5, 0), (6, 0), (7, 0), (8, 0), (9, 0), (10, 0), (11, 0), (12, 0), (13, 0), (14, 0), (15, 0), (16, 0), (17, 0), (18, 0), (19, 0), (20, 0), (21, 0)] follows (by kernel_rfl) calm_body (keepS [0] rfl) <| mvp rfl <| nlc rfl <| fad rfl uy63 rfl ty3.sz <| ldp 0 1 _ rfl rfl rfl rfl ty3 <| mvp rfl <| nlc rfl <| fad rfl uy63 rfl ty9.sz <| ldp 0 0 _ rfl rfl rfl rfl ty9 <| lenT (s := s) rfl uy9 <| cmp _ rfl rfl rfl <| mvb rfl <| jsplit 49 rfl (fun h5 => ?_) (fun h5 => ?_)
  ·replace h5 := of_decide_eq_true h5
   refine g_on rfl rfl rfl <| mvp rfl <| g_on rfl rfl rfl <| nlc rfl <| g_on rfl rfl rfl <| fad rfl uy63 rfl ty9.sz <| g_on rfl rfl rfl <| ldp 0 0 _ rfl rfl rfl rfl ty9 <| g_on rfl rfl rfl <| mvp rfl <| g_on rfl rfl rfl <| nlc rfl <| g_on rfl rfl rfl <| fad rfl uy63 rfl ty3.sz <| g_on rfl rfl rfl <| ldp 0 1 _ rfl rfl rfl rfl ty3 <| g_on rfl rfl rfl <| idxT (s := s) r rfl rfl uy9 rfl (by first | omega | (simp; done) | (simp; omega) | (simp at *; omega)) <| g_on rfl rfl rfl <| equ8 (a := (List.getD s r 0)) (b := (32 : UInt8)) _ rfl rfl rfl <| pkt (.bool _) rfl rfl <| jt <| c_cond rfl (fun h6 => ?_) (fun h6 => ?_)
   ·replace h6 := ndt h6
    refine c_skip <| e_then <| c_block <| c_reg <| mvp rfl <| nlc rfl <| fad rfl uy63 rfl ty3.sz <| ldp 0 1 _ rfl rfl rfl rfl ty3 <| addi rfl rfl rfl (by omega) <| nlc rfl <| fad rfl uy63 rfl ty3.sz <| stp 0 1 _ (p1 (.int .i64 (((r : Nat) : Int) + 1))) rfl rfl rfl rfl rfl rfl ty3 ⟨trivial, ?_⟩
    refine jn <| e_in ?_
    exact e_loop (r + 1) (⟨by omega, by omega, by have := wlen_step (s := s) (i := r) (by omega) (by assumption); omega⟩) (by show s.length - (r + 1) < s.length - r; omega) trivial rfl rfl rfl
   ·replace h6 := ndf h6
    refine c_exit rfl <| e_then <| c_seq <| c_dr [_] [] [(0, 0), (1, 0), (2, 0), (3, 0), (4, 0), (5, 0), (6, 0), (7, 0), (8, 0), (9, 0), (10, 0), (11, 0), (12, 0), (13, 0), (14, 0), (15, 0), (16, 0), (17, 0), (18, 0), (19, 0)] follows (by kernel_rfl) calm_body (keepS [0] rfl) <| mvp rfl <| nlc rfl <| fad rfl uy63 rfl ty9.sz <| ldp 0 0 _ rfl rfl rfl rfl ty9 <| mvi rfl <| mvp rfl <| nlc rfl <| fad rfl uy63 rfl ty3.sz <| ldp 0 1 _ rfl rfl rfl rfl ty3 <| cutT (s := s) q r rfl uy9 ⟨_, rfl⟩ ⟨_, rfl⟩ (by first | omega | (simp; done) | (simp; omega)) (by first | omega | (simp; done) | (simp; omega)) (List.take (r - q) (List.drop q s)) rfl <| mvi rfl <| mvp rfl <| nlc rfl <| fad rfl uy63 rfl ty3.sz <| ldp 0 1 _ rfl rfl rfl rfl ty3 <| mvi rfl <| cmp _ rfl rfl rfl <| ags rfl <| agi rfl <| agb rfl <| jt <| c_ret ?_
    exact j_end (own0 := [[(b, .cells (cat [pt s, p1 (.int .i64 ((p : Nat) : Int))]) 63)]]) (ro0 := []) (.inl rfl) rfl (hr3 Tryz.results28 (rvt (v := (.string _)) rfl) (rvt (v := (.int _ _)) rfl) (rvt (v := (.bool _)) rfl)) [0] [] [_] [] [] _ rfl rfl (by kernel_rfl) rfl impl_nil (by have hr : wlen s r = 0 := wlen_end (fun hh => by first | omega | exact hh.2 (by assumption)); have hk : skp s p = q := (by rw [← hI1.2.2]; exact skp_end (fun hh => by first | omega | exact absurd hh.2 (by assumption))); rcases next_fin hk hI1.2.1 hI2.2.2 hr with ⟨e1, e2, e3, rfl, e5, e6⟩ | ⟨e1, rfl, e3, e4⟩; exact .inl ⟨q, e1, e2, e3, by rw [e5, e6], rfl, rfl⟩; exact .inr ⟨_, e1, hI1.2.1, by rw [e3, e4], rfl, rfl⟩)
  ·replace h5 := of_decide_eq_false h5
   refine g_off rfl rfl rfl rfl <| g_off rfl rfl rfl rfl <| g_off rfl rfl rfl rfl <| g_off rfl rfl rfl rfl <| g_off rfl rfl rfl rfl <| g_off rfl rfl rfl rfl <| g_off rfl rfl rfl rfl <| g_off rfl rfl rfl rfl <| g_off rfl rfl rfl rfl <| g_off rfl rfl rfl rfl <| pkf (.bool _) rfl rfl <| jt <| c_false rfl <| c_exit rfl <| e_then <| c_seq <| c_dr [_] [] [(0, 0), (1, 0), (2, 0), (3, 0), (4, 0), (5, 0), (6, 0), (7, 0), (8, 0), (9, 0), (10, 0), (11, 0), (12, 0), (13, 0), (14, 0), (15, 0), (16, 0), (17, 0), (18, 0), (19, 0)] follows (by kernel_rfl) calm_body (keepS [0] rfl) <| mvp rfl <| nlc rfl <| fad rfl uy63 rfl ty9.sz <| ldp 0 0 _ rfl rfl rfl rfl ty9 <| mvi rfl <| mvp rfl <| nlc rfl <| fad rfl uy63 rfl ty3.sz <| ldp 0 1 _ rfl rfl rfl rfl ty3 <| cutT (s := s) q r rfl uy9 ⟨_, rfl⟩ ⟨_, rfl⟩ (by first | omega | (simp; done) | (simp; omega)) (by first | omega | (simp; done) | (simp; omega)) (List.take (r - q) (List.drop q s)) rfl <| mvi rfl <| mvp rfl <| nlc rfl <| fad rfl uy63 rfl ty3.sz <| ldp 0 1 _ rfl rfl rfl rfl ty3 <| mvi rfl <| cmp _ rfl rfl rfl <| ags rfl <| agi rfl <| agb rfl <| jt <| c_ret ?_
   exact j_end (own0 := [[(b, .cells (cat [pt s, p1 (.int .i64 ((p : Nat) : Int))]) 63)]]) (ro0 := []) (.inl rfl) rfl (hr3 Tryz.results28 (rvt (v := (.string _)) rfl) (rvt (v := (.int _ _)) rfl) (rvt (v := (.bool _)) rfl)) [0] [] [_] [] [] _ rfl rfl (by kernel_rfl) rfl impl_nil (by have hr : wlen s r = 0 := wlen_end (fun hh => by first | omega | exact hh.2 (by assumption)); have hk : skp s p = q := (by rw [← hI1.2.2]; exact skp_end (fun hh => by first | omega | exact absurd hh.2 (by assumption))); rcases next_fin hk hI1.2.1 hI2.2.2 hr with ⟨e1, e2, e3, rfl, e5, e6⟩ | ⟨e1, rfl, e3, e4⟩; exact .inl ⟨q, e1, e2, e3, by rw [e5, e6], rfl, rfl⟩; exact .inr ⟨_, e1, hI1.2.1, by rw [e3, e4], rfl, rfl⟩)
end Go.Proofs.YtakbbpahfclgnaaGreatDoor
namespace Go.PW
open Enc (enc val)
open Go
theorem j_nf {cx : Cx} {md : Md} {ops : Array Oper} {Q : Exit → Act → World → Prop} {l : List (Oper × Nat)} {base : Nat → Value} {L : List (Nat × Value)} {own own' ro : List Seg} (e : own = own') (h : JG cx md ops Q l base L own' ro) : JG cx md ops Q l base L own ro := by
  subst e; exact h
def isC : Obj → Prop := fun o => ∃ c E fr, o = .cells c E fr
theorem ck_view0 {o : Obj} (h : isC o) : (Ck.view 0 []).ok o := by
  obtain ⟨c, E, fr, rfl⟩ := h
  exact ⟨c, E, fr, rfl, fun i v hv => by simp at hv⟩
def AsHit (P : Program) (f tp tpp g : Nat) (hv : Value) : Prop :=
  ∀ (e t : Addr) (old : Value) (w : World), w.cell? ⟨g, 0, none⟩ = some hv → w.cell? t = some old → w.frozen? t = false →
    Calls P f #[.iface tp (.pointer (some e)), .iface tpp (.pointer (some t))] w fun ev w' => ev = .returned (.bool true) ∧ ∃ o1 o2 o3 o4, isC o1 ∧ isC o2 ∧ isC o3 ∧ isC o4 ∧ w' = ((((w.alloc o1).alloc o2).alloc o3).alloc o4).setCell t (.pointer (some e))
theorem ct_as {P : Program} {f tp tpp g : Nat} {hv : Value} (he : EnterOk P f) (hit : AsHit P f tp tpp g hv) (a : Addr) (b E : Nat) :
    Ct P f [.iface tp (.pointer (some a)), .iface tpp (.pointer (some ⟨b, 0, none⟩))] [[(b, .cells (cat [p1 (.pointer none)]) E)]] [[(g, .view 0 [hv])]] (fun v o r => v = .bool true ∧ o = [[(b, .cells (cat [p1 (.pointer (some a))]) E)]] ∧ r = []) := by
  refine ⟨he, fun w hw => ?_⟩
  obtain ⟨x, hx, fr, rfl, hfr⟩ := hw.o _ (List.mem_singleton.2 rfl) (b, .cells (cat [p1 (.pointer none)]) E) (List.mem_singleton.2 rfl)
  have hg : w.cell? ⟨g, 0, none⟩ = some hv := by
    have := cellsAt_view (hw.r _ (List.mem_singleton.2 rfl)) (b := g) (o := 0) (off := 0) (c := [hv]) (l := [hv]) (pre := []) (post := []) (List.mem_singleton.2 rfl) rfl rfl
    exact this 0 hv rfl
  have hc : w.cell? ⟨b, 0, none⟩ = some (.pointer none) := by simp only [World.cell?, hx]; rfl
  have hf : w.frozen? ⟨b, 0, none⟩ = false := by
    simp only [World.frozen?, hx]
    have : (cat [p1 (Value.pointer none)]).length = 1 := rfl
    rw [this] at hfr
    rcases hfr with h | h <;> simp <;> omega
  refine (hit a ⟨b, 0, none⟩ _ w hg hc hf).mono ?_
  rintro e w' ⟨rfl, o1, o2, o3, o4, h1, h2, h3, h4, rfl⟩
  have hin : In ⟨w, blks [[(b, Ck.cells (cat [p1 (Value.pointer none)]) E)]], 1⟩ [[(b, .cells (cat [p1 (.pointer none)]) E)]] [[(g, .view 0 [hv])]] w := ⟨hw, Ext.refl _ _, fun b hb => .inl hb, by simp [blks]⟩
  have h5 := (((hin.alloc o1 _ (ck_view0 h1)).alloc o2 _ (ck_view0 h2)).alloc o3 _ (ck_view0 h3)).alloc o4 _ (ck_view0 h4)
  have hb : b < w.heap.size := (Array.getElem?_eq_some_iff.1 hx).1
  refine ⟨_, [[(b, .cells (cat [p1 (.pointer (some a))]) E)]], [], rfl, ⟨rfl, rfl, rfl⟩, ?_⟩
  rw [List.append_nil]
  have hx4 : ((((w.alloc o1).alloc o2).alloc o3).alloc o4).heap[b]? = some (.cells ⟨cat [p1 (.pointer none)]⟩ E fr) := by
    rw [new_old _ _ _ (by simp; omega), new_old _ _ _ (by simp; omega), new_old _ _ _ (by simp; omega), new_old _ _ _ hb]; exact hx
  have h6 := h5.turn (i := 0) (b := b) (k := .cells (cat [p1 (.pointer none)]) E) (k' := .cells (cat [p1 (.pointer (some a))]) E) (w' := ((((w.alloc o1).alloc o2).alloc o3).alloc o4).setCell ⟨b, 0, none⟩ (.pointer (some a))) (o' := .cells ⟨cat [p1 (.pointer (some a))]⟩ E fr) rfl
    (by simp only [World.setCell, Array.getElem?_modify, if_pos, hx4]; rfl) ⟨fr, rfl, hfr⟩ (fun c hc => by simp only [World.setCell, Array.getElem?_modify]; rw [if_neg (fun e => hc e.symm)]) (by simp [World.setCell]) rfl rfl rfl
  refine h6.drop (dr := [[(w.heap.size, .view 0 [])], [((w.alloc o1).heap.size, .view 0 [])], [(((w.alloc o1).alloc o2).heap.size, .view 0 [])], [((((w.alloc o1).alloc o2).alloc o3).heap.size, .view 0 [])]]) (List.Perm.refl _)
end Go.PW
namespace Go.Proofs.YtakbbpahfclgnaaGreatDoor
open Go.RowKit Go.Extern.Stop Go.Stop Go.Extern
theorem Tryz.valueOf27 (t : Addr) (w : World) : (ReflectliteValue.unpack (.iface 53 (.pointer (some t)))).run Tryz.prog w
    = .ok (.agg #[.pointer (some ⟨13, 53, none⟩), .pointer (some ⟨w.heap.size, 0, none⟩), .int .u64 150]) (w.alloc (.cells #[.pointer (some t)] 53)) := by kernel_rfl
theorem Tryz.type27 (a : Addr) (w : World) : (ReflectliteValue.methodAny (ReflectliteValue.valueError "reflectlite.Value.Type" 0) (fun t _ _ _ => ReflectliteType.toType t) #[.agg #[.pointer (some ⟨13, 53, none⟩), .pointer (some a), .int .u64 150]]).run Tryz.prog w
    = .ok (.iface 119 (.agg #[.pointer (some ⟨13, 53, none⟩)])) w := by kernel_rfl
theorem Tryz.methodKind (h : Value) (w : World) : (Go.method 361 119 (.agg #[h]) "Kind").run Tryz.prog w = .ok (185, h) w := by kernel_rfl
theorem Tryz.kind27 (w : World) : ((ReflectliteType.abiMethod fun t => (fun a : Nat => Value.int IntKind.u8 (a : Int)) <$> Rtype.kind t) #[.pointer (some ⟨13, 53, none⟩)]).run Tryz.prog w = .ok (.int .u8 22) w := by kernel_rfl
theorem Tryz.kind25 (w : World) : ((ReflectliteType.abiMethod fun t => (fun a : Nat => Value.int IntKind.u8 (a : Int)) <$> Rtype.kind t) #[.pointer (some ⟨13, 40, none⟩)]).run Tryz.prog w = .ok (.int .u8 22) w := by kernel_rfl
theorem rlm (z : Sem Value) (f : TypeId → Addr → Nat → Nat → Sem Value) (v : Value) :
    ReflectliteValue.method z f #[v] = (do match ← ReflectliteValue.parts v with | none => z | some (t, a, fl) => f t a fl (fl % 32)) := rfl
theorem Tryz.parts27 (a : Addr) (w : World) : (ReflectliteValue.parts (.agg #[.pointer (some ⟨13, 53, none⟩), .pointer (some a), .int .u64 150])).run Tryz.prog w = .ok (some (53, a, 150)) w := by kernel_rfl
theorem Tryz.isNil27 (a p : Addr) (W : World) (ha : W.cell? a = some (.pointer (some p))) :
    (ReflectliteValue.method (ReflectliteValue.valueError "reflectlite.Value.IsNil" 0) ReflectliteValue.isNil #[.agg #[.pointer (some ⟨13, 53, none⟩), .pointer (some a), .int .u64 150]]).run Tryz.prog W = .ok (.bool false) W := by
  rw [rlm]
  simp only [Sem.run_bind, Tryz.parts27, Result.andThen]
  simp [ReflectliteValue.isNil, loadVar, isAgg, underlying, Tryz.underlying53, ha, Result.andThen]
theorem Tryz.methodElem (h : Value) (w : World) : (Go.method 361 119 (.agg #[h]) "Elem").run Tryz.prog w = .ok (197, .agg #[h]) w := by kernel_rfl
theorem Tryz.methodImplements (h : Value) (w : World) : (Go.method 361 119 (.agg #[h]) "Implements").run Tryz.prog w = .ok (198, .agg #[h]) w := by kernel_rfl
theorem Tryz.methodAssignableTo (h : Value) (w : World) : (Go.method 361 119 (.agg #[h]) "AssignableTo").run Tryz.prog w = .ok (195, .agg #[h]) w := by kernel_rfl
theorem Tryz.elem27 (w : World) : (ReflectliteType.method ReflectliteType.elem #[.agg #[.pointer (some ⟨13, 53, none⟩)]]).run Tryz.prog w = .ok (.iface 119 (.agg #[.pointer (some ⟨13, 40, none⟩)])) w := by kernel_rfl
theorem Tryz.implements25 (w : World) : (ReflectliteType.relation "Implements" ReflectliteType.implements_ #[.agg #[.pointer (some ⟨13, 40, none⟩)], .iface 119 (.agg #[.pointer (some ⟨13, 24, none⟩)])]).run Tryz.prog w = .ok (.bool true) w := by kernel_rfl
theorem Tryz.typeOf25 (v : Value) (w : World) : (ReflectliteType.typeOf #[.iface 40 v]).run Tryz.prog w = .ok (.iface 119 (.agg #[.pointer (some ⟨13, 40, none⟩)])) w := by kernel_rfl
theorem Tryz.assignable25 (w : World) : (ReflectliteType.relation "AssignableTo" ReflectliteType.assignableTo #[.agg #[.pointer (some ⟨13, 40, none⟩)], .iface 119 (.agg #[.pointer (some ⟨13, 40, none⟩)])]).run Tryz.prog w = .ok (.bool true) w := by kernel_rfl
theorem Tryz.valueOf25 (e : Addr) (w : World) : (ReflectliteValue.unpack (.iface 40 (.pointer (some e)))).run Tryz.prog w
    = .ok (.agg #[.pointer (some ⟨13, 40, none⟩), .pointer (some ⟨w.heap.size, 0, none⟩), .int .u64 150]) (w.alloc (.cells #[.pointer (some e)] 40)) := by kernel_rfl
theorem Tryz.elemOf27 (w : World) : (Rtype.elem? 53).run Tryz.prog w = .ok (some 40) w := by kernel_rfl
theorem Tryz.mk25 (p : Addr) (w : World) : (ReflectliteValue.mk 40 p ReflectliteValue.flagAddr).run Tryz.prog w = .ok (.agg #[.pointer (some ⟨13, 40, none⟩), .pointer (some p), .int .u64 406]) w := by kernel_rfl
theorem Tryz.elemV27 (a p : Addr) (W : World) (ha : W.cell? a = some (.pointer (some p))) :
    (ReflectliteValue.method (ReflectliteValue.valueError "reflectlite.Value.Elem" 0) ReflectliteValue.elem #[.agg #[.pointer (some ⟨13, 53, none⟩), .pointer (some a), .int .u64 150]]).run Tryz.prog W
      = .ok (.agg #[.pointer (some ⟨13, 40, none⟩), .pointer (some p), .int .u64 406]) W := by
  rw [rlm]
  simp only [Sem.run_bind, Tryz.parts27, Result.andThen]
  simp [ReflectliteValue.elem, loadVar, isAgg, underlying, Tryz.underlying53, ha, Result.andThen, Tryz.elemOf27, Tryz.mk25]
theorem rls (v x : Value) : ReflectliteValue.set #[v, x] = (do
    let (some (dst, a, fl), some (src, b, _)) := (← ReflectliteValue.parts v, ← ReflectliteValue.parts x)
      | unsupported (.noEntry "extern/(internal/reflectlite.Value).Set.zeroValue")
    if fl / ReflectliteValue.flagAddr % 2 == 0 then unsupported (.noEntry "extern/(internal/reflectlite.Value).Set.unaddressable")
    let val ← loadVar src b
    if ← Rtype.directlyAssignable dst src then storeVar dst a val
    else if ← Rtype.implements dst src then
      if (← Rtype.kind src) == 20 then
        match val with
        | .nilIface => unsupported (.noEntry "extern/reflectlite: a nil value of one interface type handed on as a value of another")
        | _ => storeVar dst a val
      else storeVar dst a (.iface src val)
    else panicString ("reflectlite.Set: value of type " ++ (← Rtype.spelt src) ++ " is not assignable to type " ++ (← Rtype.spelt dst))
    pure (.tuple #[])) := rfl
theorem Tryz.parts25a (a : Addr) (w : World) : (ReflectliteValue.parts (.agg #[.pointer (some ⟨13, 40, none⟩), .pointer (some a), .int .u64 406])).run Tryz.prog w = .ok (some (40, a, 406)) w := by kernel_rfl
theorem Tryz.parts25 (a : Addr) (w : World) : (ReflectliteValue.parts (.agg #[.pointer (some ⟨13, 40, none⟩), .pointer (some a), .int .u64 150])).run Tryz.prog w = .ok (some (40, a, 150)) w := by kernel_rfl
theorem Tryz.direct25 (w : World) : (Rtype.directlyAssignable 40 40).run Tryz.prog w = .ok true w := by kernel_rfl
theorem Tryz.set25 (ta b e : Addr) (old : Value) (W : World) (hb : W.cell? b = some (.pointer (some e))) (ht : W.cell? ta = some old) (hf : W.frozen? ta = false) :
    (ReflectliteValue.set #[.agg #[.pointer (some ⟨13, 40, none⟩), .pointer (some ta), .int .u64 406], .agg #[.pointer (some ⟨13, 40, none⟩), .pointer (some b), .int .u64 150]]).run Tryz.prog W
      = .ok (.tuple #[]) (W.setCell ta (.pointer (some e))) := by
  rw [rls]
  simp only [Sem.run_bind, Tryz.parts25a, Tryz.parts25, Result.andThen]
  simp [ReflectliteValue.flagAddr, loadVar, isAgg, underlying, Tryz.underlying40, hb, Result.andThen, Tryz.direct25, storeVar, Value.cells, storeCells, Addr.add]
  rw [run_store Tryz.prog W ta _ _ (by rfl)]
  simp [ht, hf]
set_option maxHeartbeats 4000000 in
theorem as_hit (e t : Addr) (old : Value) (w : World) (hg : w.cell? ⟨0, 0, none⟩ = some (.iface 119 (.agg #[.pointer (some ⟨13, 24, none⟩)]))) (ht0 : w.cell? t = some old) (hf0 : w.frozen? t = false) :
    Calls Tryz.prog 20 #[.iface 40 (.pointer (some e)), .iface 53 (.pointer (some t))] w fun ev w' => ev = .returned (.bool true) ∧ w' = ((((w.alloc (.cells #[.pointer (some t)] 53)).alloc (.cells #[.pointer (some ⟨13, 53, none⟩), .pointer (some ⟨w.heap.size, 0, none⟩), .int .u64 150] 83)).alloc (.cells #[.pointer (some ⟨13, 53, none⟩), .pointer (some ⟨w.heap.size, 0, none⟩), .int .u64 150] 83)).alloc (.cells #[.pointer (some e)] 40)).setCell t (.pointer (some e)) := by
  have h6 := @run_callFunc_extern Tryz.prog 34 _ (fun args => ReflectliteValue.unpack (args.getD 0 (.tuple #[]))) Tryz.func34 (by kernel_rfl) (by kernel_rfl) (by kernel_rfl) (by kernel_rfl)
  have h7 := @run_callFunc_extern Tryz.prog 35 _ (ReflectliteValue.methodAny (ReflectliteValue.valueError "reflectlite.Value.Type" 0) (fun t _ _ _ => ReflectliteType.toType t)) Tryz.func35 (by kernel_rfl) (by kernel_rfl) (by kernel_rfl) (by kernel_rfl)
  have h8 := @run_callFunc_extern Tryz.prog 36 _ (ReflectliteValue.method (ReflectliteValue.valueError "reflectlite.Value.IsNil" 0) ReflectliteValue.isNil) Tryz.func36 (by kernel_rfl) (by kernel_rfl) (by kernel_rfl) (by kernel_rfl)
  have h27 := @run_callFunc_extern Tryz.prog 185 _ (ReflectliteType.abiMethod fun t => do pure (.int .u8 (← Rtype.kind t))) Tryz.func185 (by kernel_rfl) (by kernel_rfl) (by kernel_rfl) (by kernel_rfl)
  have h37 := @run_callFunc_extern Tryz.prog 197 _ (ReflectliteType.method ReflectliteType.elem) Tryz.func197 (by kernel_rfl) (by kernel_rfl) (by kernel_rfl) (by kernel_rfl)
  have h38 := @run_callFunc_extern Tryz.prog 198 _ (ReflectliteType.relation "Implements" ReflectliteType.implements_) Tryz.func198 (by kernel_rfl) (by kernel_rfl) (by kernel_rfl) (by kernel_rfl)
  have h10 := @run_callFunc_extern Tryz.prog 60 _ ReflectliteType.typeOf Tryz.func60 (by kernel_rfl) (by kernel_rfl) (by kernel_rfl) (by kernel_rfl)
  have h35 := @run_callFunc_extern Tryz.prog 195 _ (ReflectliteType.relation "AssignableTo" ReflectliteType.assignableTo) Tryz.func195 (by kernel_rfl) (by kernel_rfl) (by kernel_rfl) (by kernel_rfl)
  have h11 := @run_callFunc_extern Tryz.prog 61 _ (ReflectliteValue.method (ReflectliteValue.valueError "reflectlite.Value.Elem" 0) ReflectliteValue.elem) Tryz.func61 (by kernel_rfl) (by kernel_rfl) (by kernel_rfl) (by kernel_rfl)
  have h12 := @run_callFunc_extern Tryz.prog 62 _ ReflectliteValue.set Tryz.func62 (by kernel_rfl) (by kernel_rfl) (by kernel_rfl) (by kernel_rfl)
  have tO := Tryz.typeOf25
  have mA := Tryz.methodAssignableTo
  have a25 := Tryz.assignable25
  have v25 := Tryz.valueOf25
  have f6 := Tryz.valueOf27
  have f7 := Tryz.type27
  have mK := Tryz.methodKind
  have mE := Tryz.methodElem
  have mI := Tryz.methodImplements
  have k27 := Tryz.kind27
  have k25 := Tryz.kind25
  have e27 := Tryz.elem27
  have i25 := Tryz.implements25
  have n8 := Tryz.isNil27 ⟨w.heap.size, 0, none⟩ t ((w.alloc (.cells #[.pointer (some t)] 53)).alloc (.cells #[.pointer (some ⟨13, 53, none⟩), .pointer (some ⟨w.heap.size, 0, none⟩), .int .u64 150] 83)) (by simp)
  have hlt : 0 < w.heap.size := by
    rcases Nat.eq_zero_or_pos w.heap.size with h0 | h
    · simp [World.cell?, h0] at hg
    · exact h
  have hg2 : ((w.alloc (.cells #[.pointer (some t)] 53)).alloc (.cells #[.pointer (some ⟨13, 53, none⟩), .pointer (some ⟨w.heap.size, 0, none⟩), .int .u64 150] 83)).cell? ⟨0, 0, none⟩ = some (.iface 119 (.agg #[.pointer (some ⟨13, 24, none⟩)])) := by
    rw [World.cell?_alloc_lt _ _ ⟨0, 0, none⟩ (by simp), World.cell?_alloc_lt _ _ ⟨0, 0, none⟩ hlt]; exact hg
  have htl : t.block < w.heap.size := by
    rcases Nat.lt_or_ge t.block w.heap.size with h | h
    · exact h
    · simp [World.cell?, Array.getElem?_eq_none h] at ht0
  have el := Tryz.elemV27 ⟨w.heap.size, 0, none⟩ t (((w.alloc (.cells #[.pointer (some t)] 53)).alloc (.cells #[.pointer (some ⟨13, 53, none⟩), .pointer (some ⟨w.heap.size, 0, none⟩), .int .u64 150] 83)).alloc (.cells #[.pointer (some ⟨13, 53, none⟩), .pointer (some ⟨w.heap.size, 0, none⟩), .int .u64 150] 83)) (by rw [World.cell?_alloc_lt _ _ ⟨w.heap.size, 0, none⟩ (by simp; omega)]; simp)
  have st := Tryz.set25 t ⟨w.heap.size + 1 + 1 + 1, 0, none⟩ e old ((((w.alloc (.cells #[.pointer (some t)] 53)).alloc (.cells #[.pointer (some ⟨13, 53, none⟩), .pointer (some ⟨w.heap.size, 0, none⟩), .int .u64 150] 83)).alloc (.cells #[.pointer (some ⟨13, 53, none⟩), .pointer (some ⟨w.heap.size, 0, none⟩), .int .u64 150] 83)).alloc (.cells #[.pointer (some e)] 40))
    (by rw [World.cell?_alloc_at _ _ _ _ (by simp)]; rfl)
    (by rw [World.cell?_alloc_lt _ _ t (by simp; omega), World.cell?_alloc_lt _ _ t (by simp; omega), World.cell?_alloc_lt _ _ t (by simp; omega), World.cell?_alloc_lt _ _ t htl]; exact ht0)
    (by rw [World.frozen?_alloc_old _ _ t (by simp; omega), World.frozen?_alloc_old _ _ t (by simp; omega), World.frozen?_alloc_old _ _ t (by simp; omega), World.frozen?_alloc_old _ _ t (Nat.ne_of_lt htl)]; exact hf0)
  go_enter Tryz.func20, Tryz.ntmps20
  go_wp2
  refine wp_loop_rounds 1 ?_
  rw [rounds_succ]
  go_wp2
  go_ret
  exact ⟨rfl, rfl⟩
theorem as_asHit : Go.PW.AsHit Tryz.prog 20 40 53 0 (.iface 119 (.agg #[.pointer (some ⟨13, 24, none⟩)])) := fun e t old w hg ht hf =>
  (as_hit e t old w hg ht hf).mono fun ev w' ⟨h1, h2⟩ => ⟨h1, _, _, _, _, ⟨_, _, _, rfl⟩, ⟨_, _, _, rfl⟩, ⟨_, _, _, rfl⟩, ⟨_, _, _, rfl⟩, h2⟩
theorem as_ct (a : Addr) (b E : Nat) : Go.PW.Ct Tryz.prog 20 [.iface 40 (.pointer (some a)), .iface 53 (.pointer (some ⟨b, 0, none⟩))] [[(b, .cells (Go.PW.cat [Go.PW.p1 (.pointer none)]) E)]] [[(0, .view 0 [.iface 119 (.agg #[.pointer (some ⟨13, 24, none⟩)])])]] (fun v o r => v = .bool true ∧ o = [[(b, .cells (Go.PW.cat [Go.PW.p1 (.pointer (some a))]) E)]] ∧ r = []) :=
  Go.PW.ct_as ⟨_, Tryz.func20, by kernel_rfl, by kernel_rfl⟩ as_asHit a b E
theorem errType_row : ((List.range 261).filter fun t => Tryz.prog.rowNamed t [101, 114, 114, 111, 114]) = [24] := by kernel_rfl
end Go.Proofs.YtakbbpahfclgnaaGreatDoor
namespace Go.Proofs.YtakbbpahfclgnaaGreatDoor
open Go Go.Proofs Go.PW
open Go.PW.Enc (enc val)
theorem z9 : Zt Tryz.prog 9 ((pt ([] : Str)).v) := by unfold Zt; kernel_rfl
theorem zv37 : Zt Tryz.prog 37 (val (⟨none, 0, 0⟩ : SlH)) := by unfold Zt; kernel_rfl
theorem key9 : KeyT Tryz.prog 9 Str := keyT_str Tryz.underlying9
theorem form_cases (w : Str) : (w = ([98, 101, 103, 105, 110] : Str) ∧ form16 w = some [118, 107, 116, 100, 111]) ∨ (w = ([115, 101, 110, 100] : Str) ∧ form16 w = some [115, 100, 99]) ∨ (w = ([98, 121, 116, 101, 115] : Str) ∧ form16 w = some [115, 100, 104]) ∨ (w = ([103, 105, 118, 101] : Str) ∧ form16 w = some [110, 115]) ∨ (w = ([116, 117, 114, 110] : Str) ∧ form16 w = some [110, 110, 115]) ∨ (w = ([99, 117, 116] : Str) ∧ form16 w = some [110, 110, 115]) ∨ (w = ([106, 111, 105, 110] : Str) ∧ form16 w = some [110, 104, 115]) ∨ (w = ([101, 120, 116, 114, 97] : Str) ∧ form16 w = some [110, 104, 115]) ∨ (w = ([102, 111, 114, 103, 101] : Str) ∧ form16 w = some [104, 115]) ∨ (w = ([102, 111, 114, 103, 101, 116] : Str) ∧ form16 w = some [115, 110]) ∨ (w = ([101, 120, 112, 111, 114, 116] : Str) ∧ form16 w = some [115]) ∨ (w = ([115, 97, 118, 101] : Str) ∧ form16 w = some [115, 119]) ∨ (w = ([108, 111, 97, 100] : Str) ∧ form16 w = some [115, 119]) ∨ (w = ([105, 109, 112, 111, 114, 116] : Str) ∧ form16 w = some [115, 104]) ∨ (w = ([108, 111, 111, 107] : Str) ∧ form16 w = some [115]) ∨ (form16 w = none ∧ w ≠ ([98, 101, 103, 105, 110] : Str) ∧ w ≠ ([115, 101, 110, 100] : Str) ∧ w ≠ ([98, 121, 116, 101, 115] : Str) ∧ w ≠ ([103, 105, 118, 101] : Str) ∧ w ≠ ([116, 117, 114, 110] : Str) ∧ w ≠ ([99, 117, 116] : Str) ∧ w ≠ ([106, 111, 105, 110] : Str) ∧ w ≠ ([101, 120, 116, 114, 97] : Str) ∧ w ≠ ([102, 111, 114, 103, 101] : Str) ∧ w ≠ ([102, 111, 114, 103, 101, 116] : Str) ∧ w ≠ ([101, 120, 112, 111, 114, 116] : Str) ∧ w ≠ ([115, 97, 118, 101] : Str) ∧ w ≠ ([108, 111, 97, 100] : Str) ∧ w ≠ ([105, 109, 112, 111, 114, 116] : Str) ∧ w ≠ ([108, 111, 111, 107] : Str)) := by
  by_cases h0 : w = ([98, 101, 103, 105, 110] : Str)
  · refine .inl ⟨h0, ?_⟩; subst h0; rfl
  by_cases h1 : w = ([115, 101, 110, 100] : Str)
  · refine .inr (.inl ⟨h1, ?_⟩); subst h1; rfl
  by_cases h2 : w = ([98, 121, 116, 101, 115] : Str)
  · refine .inr (.inr (.inl ⟨h2, ?_⟩)); subst h2; rfl
  by_cases h3 : w = ([103, 105, 118, 101] : Str)
  · refine .inr (.inr (.inr (.inl ⟨h3, ?_⟩))); subst h3; rfl
  by_cases h4 : w = ([116, 117, 114, 110] : Str)
  · refine .inr (.inr (.inr (.inr (.inl ⟨h4, ?_⟩)))); subst h4; rfl
  by_cases h5 : w = ([99, 117, 116] : Str)
  · refine .inr (.inr (.inr (.inr (.inr (.inl ⟨h5, ?_⟩))))); subst h5; rfl
  by_cases h6 : w = ([106, 111, 105, 110] : Str)
  · refine .inr (.inr (.inr (.inr (.inr (.inr (.inl ⟨h6, ?_⟩)))))); subst h6; rfl
  by_cases h7 : w = ([101, 120, 116, 114, 97] : Str)
  · refine .inr (.inr (.inr (.inr (.inr (.inr (.inr (.inl ⟨h7, ?_⟩))))))); subst h7; rfl
  by_cases h8 : w = ([102, 111, 114, 103, 101] : Str)
  · refine .inr (.inr (.inr (.inr (.inr (.inr (.inr (.inr (.inl ⟨h8, ?_⟩)))))))); subst h8; rfl
  by_cases h9 : w = ([102, 111, 114, 103, 101, 116] : Str)
  · refine .inr (.inr (.inr (.inr (.inr (.inr (.inr (.inr (.inr (.inl ⟨h9, ?_⟩))))))))); subst h9; rfl
  by_cases h10 : w = ([101, 120, 112, 111, 114, 116] : Str)
  · refine .inr (.inr (.inr (.inr (.inr (.inr (.inr (.inr (.inr (.inr (.inl ⟨h10, ?_⟩)))))))))); subst h10; rfl
  by_cases h11 : w = ([115, 97, 118, 101] : Str)
  · refine .inr (.inr (.inr (.inr (.inr (.inr (.inr (.inr (.inr (.inr (.inr (.inl ⟨h11, ?_⟩))))))))))); subst h11; rfl
  by_cases h12 : w = ([108, 111, 97, 100] : Str)
  · refine .inr (.inr (.inr (.inr (.inr (.inr (.inr (.inr (.inr (.inr (.inr (.inr (.inl ⟨h12, ?_⟩)))))))))))); subst h12; rfl
  by_cases h13 : w = ([105, 109, 112, 111, 114, 116] : Str)
  · refine .inr (.inr (.inr (.inr (.inr (.inr (.inr (.inr (.inr (.inr (.inr (.inr (.inr (.inl ⟨h13, ?_⟩))))))))))))); subst h13; rfl
  by_cases h14 : w = ([108, 111, 111, 107] : Str)
  · refine .inr (.inr (.inr (.inr (.inr (.inr (.inr (.inr (.inr (.inr (.inr (.inr (.inr (.inr (.inl ⟨h14, ?_⟩)))))))))))))); subst h14; rfl
  refine .inr (.inr (.inr (.inr (.inr (.inr (.inr (.inr (.inr (.inr (.inr (.inr (.inr (.inr (.inr (⟨?_, h0, h1, h2, h3, h4, h5, h6, h7, h8, h9, h10, h11, h12, h13, h14⟩)))))))))))))))
  unfold form16
  rw [if_neg h0, if_neg h1, if_neg h2, if_neg h3, if_neg h4, if_neg h5, if_neg h6, if_neg h7, if_neg h8, if_neg h9, if_neg h10, if_neg h11, if_neg h12, if_neg h13, if_neg h14]
def lastC : List Str → Bool
  | [] => true
  | k :: r => (decide (k ≠ ([99, 111, 110, 116, 101, 110, 116] : Str)) || r.isEmpty) && lastC r
def knd (ks : List Str) : Bool := ks.all (fun k => (k16.map (·.1)).contains k) && lastC ks
theorem kindsOf_ct (w : Str) : Ct Tryz.prog 29 [strV w] [] [] (fun v o r => (∃ (KN : List Str) (o' : Ow), form16 w = some (KN.map kU) ∧ knd KN = true ∧ KN.length ≤ 5 ∧ o'.ok KN ∧ v = .tuple #[.slice o'.adr KN.length o'.cap, .bool true] ∧ o = [o'.seg KN 9] ∧ r = []) ∨ (form16 w = none ∧ v = .tuple #[.slice none 0 0, .bool false] ∧ o = [] ∧ r = [])) := by
 refine ct_enter Tryz.func29 rfl Tryz.ntmps29 (by kernel_rfl) rfl fun w0 => ?_
 refine csr <| agl rfl <| agb rfl <| jsr <| mkm (α := Str) (β := SlH) fun m7 => ⟨trivial, ?_⟩
 refine bsl (α := Str) ([([118, 101, 114, 115, 105, 111, 110] : Str), ([115, 107, 105, 112] : Str), ([115, 116, 111, 114, 101] : Str), ([115, 101, 101, 100] : Str), ([111, 110, 99, 101] : Str)]) uy37 ty9.sz rfl (by decide) z9 rfl fun b8 => ⟨trivial, ?_⟩
 refine j_nf (own' := [_, _]) rfl <| ins 0 _ ([98, 101, 103, 105, 110] : Str) (⟨some ⟨b8, 0, none⟩, 5, 5⟩ : SlH) rfl rfl rfl rfl rfl uy104 key9 rfl (by kernel_rfl) ⟨trivial, ?_⟩
 refine j_nf (own' := [_, _]) rfl <| bsl (α := Str) ([([115, 105, 100, 101] : Str), ([115, 101, 101, 100] : Str), ([99, 111, 110, 116, 101, 110, 116] : Str)]) uy37 ty9.sz rfl (by decide) z9 rfl fun b9 => ⟨trivial, ?_⟩
 refine j_nf (own' := [_, _, _]) rfl <| ins 0 _ ([115, 101, 110, 100] : Str) (⟨some ⟨b9, 0, none⟩, 3, 3⟩ : SlH) rfl rfl rfl rfl rfl uy104 key9 rfl (by kernel_rfl) ⟨trivial, ?_⟩
 refine j_nf (own' := [_, _, _]) rfl <| bsl (α := Str) ([([115, 105, 100, 101] : Str), ([115, 101, 101, 100] : Str), ([104, 101, 120] : Str)]) uy37 ty9.sz rfl (by decide) z9 rfl fun b10 => ⟨trivial, ?_⟩
 refine j_nf (own' := [_, _, _, _]) rfl <| ins 0 _ ([98, 121, 116, 101, 115] : Str) (⟨some ⟨b10, 0, none⟩, 3, 3⟩ : SlH) rfl rfl rfl rfl rfl uy104 key9 rfl (by kernel_rfl) ⟨trivial, ?_⟩
 refine j_nf (own' := [_, _, _, _]) rfl <| bsl (α := Str) ([([110, 117, 109, 98, 101, 114] : Str), ([115, 105, 100, 101] : Str)]) uy37 ty9.sz rfl (by decide) z9 rfl fun b11 => ⟨trivial, ?_⟩
 refine j_nf (own' := [_, _, _, _, _]) rfl <| ins 0 _ ([103, 105, 118, 101] : Str) (⟨some ⟨b11, 0, none⟩, 2, 2⟩ : SlH) rfl rfl rfl rfl rfl uy104 key9 rfl (by kernel_rfl) ⟨trivial, ?_⟩
 refine j_nf (own' := [_, _, _, _, _]) rfl <| bsl (α := Str) ([([110, 117, 109, 98, 101, 114] : Str), ([110, 117, 109, 98, 101, 114] : Str), ([115, 105, 100, 101] : Str)]) uy37 ty9.sz rfl (by decide) z9 rfl fun b12 => ⟨trivial, ?_⟩
 refine j_nf (own' := [_, _, _, _, _, _]) rfl <| ins 0 _ ([116, 117, 114, 110] : Str) (⟨some ⟨b12, 0, none⟩, 3, 3⟩ : SlH) rfl rfl rfl rfl rfl uy104 key9 rfl (by kernel_rfl) ⟨trivial, ?_⟩
 refine j_nf (own' := [_, _, _, _, _, _]) rfl <| bsl (α := Str) ([([110, 117, 109, 98, 101, 114] : Str), ([110, 117, 109, 98, 101, 114] : Str), ([115, 105, 100, 101] : Str)]) uy37 ty9.sz rfl (by decide) z9 rfl fun b13 => ⟨trivial, ?_⟩
 refine j_nf (own' := [_, _, _, _, _, _, _]) rfl <| ins 0 _ ([99, 117, 116] : Str) (⟨some ⟨b13, 0, none⟩, 3, 3⟩ : SlH) rfl rfl rfl rfl rfl uy104 key9 rfl (by kernel_rfl) ⟨trivial, ?_⟩
 refine j_nf (own' := [_, _, _, _, _, _, _]) rfl <| bsl (α := Str) ([([110, 117, 109, 98, 101, 114] : Str), ([104, 101, 120] : Str), ([115, 105, 100, 101] : Str)]) uy37 ty9.sz rfl (by decide) z9 rfl fun b14 => ⟨trivial, ?_⟩
 refine j_nf (own' := [_, _, _, _, _, _, _, _]) rfl <| ins 0 _ ([106, 111, 105, 110] : Str) (⟨some ⟨b14, 0, none⟩, 3, 3⟩ : SlH) rfl rfl rfl rfl rfl uy104 key9 rfl (by kernel_rfl) ⟨trivial, ?_⟩
 refine j_nf (own' := [_, _, _, _, _, _, _, _]) rfl <| bsl (α := Str) ([([110, 117, 109, 98, 101, 114] : Str), ([104, 101, 120] : Str), ([115, 105, 100, 101] : Str)]) uy37 ty9.sz rfl (by decide) z9 rfl fun b15 => ⟨trivial, ?_⟩
 refine j_nf (own' := [_, _, _, _, _, _, _, _, _]) rfl <| ins 0 _ ([101, 120, 116, 114, 97] : Str) (⟨some ⟨b15, 0, none⟩, 3, 3⟩ : SlH) rfl rfl rfl rfl rfl uy104 key9 rfl (by kernel_rfl) ⟨trivial, ?_⟩
 refine j_nf (own' := [_, _, _, _, _, _, _, _, _]) rfl <| bsl (α := Str) ([([104, 101, 120] : Str), ([115, 105, 100, 101] : Str)]) uy37 ty9.sz rfl (by decide) z9 rfl fun b16 => ⟨trivial, ?_⟩
 refine j_nf (own' := [_, _, _, _, _, _, _, _, _, _]) rfl <| ins 0 _ ([102, 111, 114, 103, 101] : Str) (⟨some ⟨b16, 0, none⟩, 2, 2⟩ : SlH) rfl rfl rfl rfl rfl uy104 key9 rfl (by kernel_rfl) ⟨trivial, ?_⟩
 refine j_nf (own' := [_, _, _, _, _, _, _, _, _, _]) rfl <| bsl (α := Str) ([([115, 105, 100, 101] : Str), ([110, 117, 109, 98, 101, 114] : Str)]) uy37 ty9.sz rfl (by decide) z9 rfl fun b17 => ⟨trivial, ?_⟩
 refine j_nf (own' := [_, _, _, _, _, _, _, _, _, _, _]) rfl <| ins 0 _ ([102, 111, 114, 103, 101, 116] : Str) (⟨some ⟨b17, 0, none⟩, 2, 2⟩ : SlH) rfl rfl rfl rfl rfl uy104 key9 rfl (by kernel_rfl) ⟨trivial, ?_⟩
 refine j_nf (own' := [_, _, _, _, _, _, _, _, _, _, _]) rfl <| bsl (α := Str) ([([115, 105, 100, 101] : Str)]) uy37 ty9.sz rfl (by decide) z9 rfl fun b18 => ⟨trivial, ?_⟩
 refine j_nf (own' := [_, _, _, _, _, _, _, _, _, _, _, _]) rfl <| ins 0 _ ([101, 120, 112, 111, 114, 116] : Str) (⟨some ⟨b18, 0, none⟩, 1, 1⟩ : SlH) rfl rfl rfl rfl rfl uy104 key9 rfl (by kernel_rfl) ⟨trivial, ?_⟩
 refine j_nf (own' := [_, _, _, _, _, _, _, _, _, _, _, _]) rfl <| bsl (α := Str) ([([115, 105, 100, 101] : Str), ([110, 97, 109, 101] : Str)]) uy37 ty9.sz rfl (by decide) z9 rfl fun b19 => ⟨trivial, ?_⟩
 refine j_nf (own' := [_, _, _, _, _, _, _, _, _, _, _, _, _]) rfl <| ins 0 _ ([115, 97, 118, 101] : Str) (⟨some ⟨b19, 0, none⟩, 2, 2⟩ : SlH) rfl rfl rfl rfl rfl uy104 key9 rfl (by kernel_rfl) ⟨trivial, ?_⟩
 refine j_nf (own' := [_, _, _, _, _, _, _, _, _, _, _, _, _]) rfl <| bsl (α := Str) ([([115, 105, 100, 101] : Str), ([110, 97, 109, 101] : Str)]) uy37 ty9.sz rfl (by decide) z9 rfl fun b20 => ⟨trivial, ?_⟩
 refine j_nf (own' := [_, _, _, _, _, _, _, _, _, _, _, _, _, _]) rfl <| ins 0 _ ([108, 111, 97, 100] : Str) (⟨some ⟨b20, 0, none⟩, 2, 2⟩ : SlH) rfl rfl rfl rfl rfl uy104 key9 rfl (by kernel_rfl) ⟨trivial, ?_⟩
 refine j_nf (own' := [_, _, _, _, _, _, _, _, _, _, _, _, _, _]) rfl <| bsl (α := Str) ([([115, 105, 100, 101] : Str), ([104, 101, 120] : Str)]) uy37 ty9.sz rfl (by decide) z9 rfl fun b21 => ⟨trivial, ?_⟩
 refine j_nf (own' := [_, _, _, _, _, _, _, _, _, _, _, _, _, _, _]) rfl <| ins 0 _ ([105, 109, 112, 111, 114, 116] : Str) (⟨some ⟨b21, 0, none⟩, 2, 2⟩ : SlH) rfl rfl rfl rfl rfl uy104 key9 rfl (by kernel_rfl) ⟨trivial, ?_⟩
 refine j_nf (own' := [_, _, _, _, _, _, _, _, _, _, _, _, _, _, _]) rfl <| bsl (α := Str) ([([115, 105, 100, 101] : Str)]) uy37 ty9.sz rfl (by decide) z9 rfl fun b22 => ⟨trivial, ?_⟩
 refine j_nf (own' := [_, _, _, _, _, _, _, _, _, _, _, _, _, _, _, _]) rfl <| ins 0 _ ([108, 111, 111, 107] : Str) (⟨some ⟨b22, 0, none⟩, 1, 1⟩ : SlH) rfl rfl rfl rfl rfl uy104 key9 rfl (by kernel_rfl) ⟨trivial, ?_⟩
 refine j_nf (own' := [_, _, _, _, _, _, _, _, _, _, _, _, _, _, _, _]) rfl <| mv (.map _) rfl <| mvs rfl ?_
 rcases form_cases w with ⟨HW, HF⟩ | ⟨HW, HF⟩ | ⟨HW, HF⟩ | ⟨HW, HF⟩ | ⟨HW, HF⟩ | ⟨HW, HF⟩ | ⟨HW, HF⟩ | ⟨HW, HF⟩ | ⟨HW, HF⟩ | ⟨HW, HF⟩ | ⟨HW, HF⟩ | ⟨HW, HF⟩ | ⟨HW, HF⟩ | ⟨HW, HF⟩ | ⟨HW, HF⟩ | ⟨HF, HN0, HN1, HN2, HN3, HN4, HN5, HN6, HN7, HN8, HN9, HN10, HN11, HN12, HN13, HN14⟩
 ·refine lk2v 0 _ w (⟨none, 0, 0⟩ : SlH) (some (⟨some ⟨b8, 0, none⟩, 5, 5⟩ : SlH)) (by rw [HW]; kernel_rfl) rfl rfl rfl uy104 key9 zv37 rfl <| mv (.tuple _) rfl <| xtr (.slice _ _ _) rfl rfl <| xtr (.bool _) rfl rfl <| agl rfl <| agb rfl <| jsr <| mvl rfl <| mvb rfl <| agl rfl <| agb rfl <| jt <| c_ret ?_
  exact j_end (own0 := []) (ro0 := []) (.inl rfl) rfl (hr2 Tryz.results29 (rvt (v := (.slice _ _ _)) rfl) (rvt (v := (.bool _)) rfl)) [1] [0, 2, 3, 4, 5, 6, 7, 8, 9, 10, 11, 12, 13, 14, 15] [_] [_, _, _, _, _, _, _, _, _, _, _, _, _, _, _] [] _ rfl rfl (by kernel_rfl) rfl impl_nil (.inl ⟨[([118, 101, 114, 115, 105, 111, 110] : Str), ([115, 107, 105, 112] : Str), ([115, 116, 111, 114, 101] : Str), ([115, 101, 101, 100] : Str), ([111, 110, 99, 101] : Str)], ⟨false, b8, 5, []⟩, HF, rfl, (by decide), ⟨by simp, fun _ => rfl, Nat.le_refl _⟩, rfl, rfl, rfl⟩)
 ·refine lk2v 0 _ w (⟨none, 0, 0⟩ : SlH) (some (⟨some ⟨b9, 0, none⟩, 3, 3⟩ : SlH)) (by rw [HW]; kernel_rfl) rfl rfl rfl uy104 key9 zv37 rfl <| mv (.tuple _) rfl <| xtr (.slice _ _ _) rfl rfl <| xtr (.bool _) rfl rfl <| agl rfl <| agb rfl <| jsr <| mvl rfl <| mvb rfl <| agl rfl <| agb rfl <| jt <| c_ret ?_
  exact j_end (own0 := []) (ro0 := []) (.inl rfl) rfl (hr2 Tryz.results29 (rvt (v := (.slice _ _ _)) rfl) (rvt (v := (.bool _)) rfl)) [2] [0, 1, 3, 4, 5, 6, 7, 8, 9, 10, 11, 12, 13, 14, 15] [_] [_, _, _, _, _, _, _, _, _, _, _, _, _, _, _] [] _ rfl rfl (by kernel_rfl) rfl impl_nil (.inl ⟨[([115, 105, 100, 101] : Str), ([115, 101, 101, 100] : Str), ([99, 111, 110, 116, 101, 110, 116] : Str)], ⟨false, b9, 3, []⟩, HF, rfl, (by decide), ⟨by simp, fun _ => rfl, Nat.le_refl _⟩, rfl, rfl, rfl⟩)
 ·refine lk2v 0 _ w (⟨none, 0, 0⟩ : SlH) (some (⟨some ⟨b10, 0, none⟩, 3, 3⟩ : SlH)) (by rw [HW]; kernel_rfl) rfl rfl rfl uy104 key9 zv37 rfl <| mv (.tuple _) rfl <| xtr (.slice _ _ _) rfl rfl <| xtr (.bool _) rfl rfl <| agl rfl <| agb rfl <| jsr <| mvl rfl <| mvb rfl <| agl rfl <| agb rfl <| jt <| c_ret ?_
  exact j_end (own0 := []) (ro0 := []) (.inl rfl) rfl (hr2 Tryz.results29 (rvt (v := (.slice _ _ _)) rfl) (rvt (v := (.bool _)) rfl)) [3] [0, 1, 2, 4, 5, 6, 7, 8, 9, 10, 11, 12, 13, 14, 15] [_] [_, _, _, _, _, _, _, _, _, _, _, _, _, _, _] [] _ rfl rfl (by kernel_rfl) rfl impl_nil (.inl ⟨[([115, 105, 100, 101] : Str), ([115, 101, 101, 100] : Str), ([104, 101, 120] : Str)], ⟨false, b10, 3, []⟩, HF, rfl, (by decide), ⟨by simp, fun _ => rfl, Nat.le_refl _⟩, rfl, rfl, rfl⟩)
 ·refine lk2v 0 _ w (⟨none, 0, 0⟩ : SlH) (some (⟨some ⟨b11, 0, none⟩, 2, 2⟩ : SlH)) (by rw [HW]; kernel_rfl) rfl rfl rfl uy104 key9 zv37 rfl <| mv (.tuple _) rfl <| xtr (.slice _ _ _) rfl rfl <| xtr (.bool _) rfl rfl <| agl rfl <| agb rfl <| jsr <| mvl rfl <| mvb rfl <| agl rfl <| agb rfl <| jt <| c_ret ?_
  exact j_end (own0 := []) (ro0 := []) (.inl rfl) rfl (hr2 Tryz.results29 (rvt (v := (.slice _ _ _)) rfl) (rvt (v := (.bool _)) rfl)) [4] [0, 1, 2, 3, 5, 6, 7, 8, 9, 10, 11, 12, 13, 14, 15] [_] [_, _, _, _, _, _, _, _, _, _, _, _, _, _, _] [] _ rfl rfl (by kernel_rfl) rfl impl_nil (.inl ⟨[([110, 117, 109, 98, 101, 114] : Str), ([115, 105, 100, 101] : Str)], ⟨false, b11, 2, []⟩, HF, rfl, (by decide), ⟨by simp, fun _ => rfl, Nat.le_refl _⟩, rfl, rfl, rfl⟩)
 ·refine lk2v 0 _ w (⟨none, 0, 0⟩ : SlH) (some (⟨some ⟨b12, 0, none⟩, 3, 3⟩ : SlH)) (by rw [HW]; kernel_rfl) rfl rfl rfl uy104 key9 zv37 rfl <| mv (.tuple _) rfl <| xtr (.slice _ _ _) rfl rfl <| xtr (.bool _) rfl rfl <| agl rfl <| agb rfl <| jsr <| mvl rfl <| mvb rfl <| agl rfl <| agb rfl <| jt <| c_ret ?_
  exact j_end (own0 := []) (ro0 := []) (.inl rfl) rfl (hr2 Tryz.results29 (rvt (v := (.slice _ _ _)) rfl) (rvt (v := (.bool _)) rfl)) [5] [0, 1, 2, 3, 4, 6, 7, 8, 9, 10, 11, 12, 13, 14, 15] [_] [_, _, _, _, _, _, _, _, _, _, _, _, _, _, _] [] _ rfl rfl (by kernel_rfl) rfl impl_nil (.inl ⟨[([110, 117, 109, 98, 101, 114] : Str), ([110, 117, 109, 98, 101, 114] : Str), ([115, 105, 100, 101] : Str)], ⟨false, b12, 3, []⟩, HF, rfl, (by decide), ⟨by simp, fun _ => rfl, Nat.le_refl _⟩, rfl, rfl, rfl⟩)
 ·refine lk2v 0 _ w (⟨none, 0, 0⟩ : SlH) (some (⟨some ⟨b13, 0, none⟩, 3, 3⟩ : SlH)) (by rw [HW]; kernel_rfl) rfl rfl rfl uy104 key9 zv37 rfl <| mv (.tuple _) rfl <| xtr (.slice _ _ _) rfl rfl <| xtr (.bool _) rfl rfl <| agl rfl <| agb rfl <| jsr <| mvl rfl <| mvb rfl <| agl rfl <| agb rfl <| jt <| c_ret ?_
  exact j_end (own0 := []) (ro0 := []) (.inl rfl) rfl (hr2 Tryz.results29 (rvt (v := (.slice _ _ _)) rfl) (rvt (v := (.bool _)) rfl)) [6] [0, 1, 2, 3, 4, 5, 7, 8, 9, 10, 11, 12, 13, 14, 15] [_] [_, _, _, _, _, _, _, _, _, _, _, _, _, _, _] [] _ rfl rfl (by kernel_rfl) rfl impl_nil (.inl ⟨[([110, 117, 109, 98, 101, 114] : Str), ([110, 117, 109, 98, 101, 114] : Str), ([115, 105, 100, 101] : Str)], ⟨false, b13, 3, []⟩, HF, rfl, (by decide), ⟨by simp, fun _ => rfl, Nat.le_refl _⟩, rfl, rfl, rfl⟩)
 ·refine lk2v 0 _ w (⟨none, 0, 0⟩ : SlH) (some (⟨some ⟨b14, 0, none⟩, 3, 3⟩ : SlH)) (by rw [HW]; kernel_rfl) rfl rfl rfl uy104 key9 zv37 rfl <| mv (.tuple _) rfl <| xtr (.slice _ _ _) rfl rfl <| xtr (.bool _) rfl rfl <| agl rfl <| agb rfl <| jsr <| mvl rfl <| mvb rfl <| agl rfl <| agb rfl <| jt <| c_ret ?_
  exact j_end (own0 := []) (ro0 := []) (.inl rfl) rfl (hr2 Tryz.results29 (rvt (v := (.slice _ _ _)) rfl) (rvt (v := (.bool _)) rfl)) [7] [0, 1, 2, 3, 4, 5, 6, 8, 9, 10, 11, 12, 13, 14, 15] [_] [_, _, _, _, _, _, _, _, _, _, _, _, _, _, _] [] _ rfl rfl (by kernel_rfl) rfl impl_nil (.inl ⟨[([110, 117, 109, 98, 101, 114] : Str), ([104, 101, 120] : Str), ([115, 105, 100, 101] : Str)], ⟨false, b14, 3, []⟩, HF, rfl, (by decide), ⟨by simp, fun _ => rfl, Nat.le_refl _⟩, rfl, rfl, rfl⟩)
 ·refine lk2v 0 _ w (⟨none, 0, 0⟩ : SlH) (some (⟨some ⟨b15, 0, none⟩, 3, 3⟩ : SlH)) (by rw [HW]; kernel_rfl) rfl rfl rfl uy104 key9 zv37 rfl <| mv (.tuple _) rfl <| xtr (.slice _ _ _) rfl rfl <| xtr (.bool _) rfl rfl <| agl rfl <| agb rfl <| jsr <| mvl rfl <| mvb rfl <| agl rfl <| agb rfl <| jt <| c_ret ?_
  exact j_end (own0 := []) (ro0 := []) (.inl rfl) rfl (hr2 Tryz.results29 (rvt (v := (.slice _ _ _)) rfl) (rvt (v := (.bool _)) rfl)) [8] [0, 1, 2, 3, 4, 5, 6, 7, 9, 10, 11, 12, 13, 14, 15] [_] [_, _, _, _, _, _, _, _, _, _, _, _, _, _, _] [] _ rfl rfl (by kernel_rfl) rfl impl_nil (.inl ⟨[([110, 117, 109, 98, 101, 114] : Str), ([104, 101, 120] : Str), ([115, 105, 100, 101] : Str)], ⟨false, b15, 3, []⟩, HF, rfl, (by decide), ⟨by simp, fun _ => rfl, Nat.le_refl _⟩, rfl, rfl, rfl⟩)
 ·refine lk2v 0 _ w (⟨none, 0, 0⟩ : SlH) (some (⟨some ⟨b16, 0, none⟩, 2, 2⟩ : SlH)) (by rw [HW]; kernel_rfl) rfl rfl rfl uy104 key9 zv37 rfl <| mv (.tuple _) rfl <| xtr (.slice _ _ _) rfl rfl <| xtr (.bool _) rfl rfl <| agl rfl <| agb rfl <| jsr <| mvl rfl <| mvb rfl <| agl rfl <| agb rfl <| jt <| c_ret ?_
  exact j_end (own0 := []) (ro0 := []) (.inl rfl) rfl (hr2 Tryz.results29 (rvt (v := (.slice _ _ _)) rfl) (rvt (v := (.bool _)) rfl)) [9] [0, 1, 2, 3, 4, 5, 6, 7, 8, 10, 11, 12, 13, 14, 15] [_] [_, _, _, _, _, _, _, _, _, _, _, _, _, _, _] [] _ rfl rfl (by kernel_rfl) rfl impl_nil (.inl ⟨[([104, 101, 120] : Str), ([115, 105, 100, 101] : Str)], ⟨false, b16, 2, []⟩, HF, rfl, (by decide), ⟨by simp, fun _ => rfl, Nat.le_refl _⟩, rfl, rfl, rfl⟩)
 ·refine lk2v 0 _ w (⟨none, 0, 0⟩ : SlH) (some (⟨some ⟨b17, 0, none⟩, 2, 2⟩ : SlH)) (by rw [HW]; kernel_rfl) rfl rfl rfl uy104 key9 zv37 rfl <| mv (.tuple _) rfl <| xtr (.slice _ _ _) rfl rfl <| xtr (.bool _) rfl rfl <| agl rfl <| agb rfl <| jsr <| mvl rfl <| mvb rfl <| agl rfl <| agb rfl <| jt <| c_ret ?_
  exact j_end (own0 := []) (ro0 := []) (.inl rfl) rfl (hr2 Tryz.results29 (rvt (v := (.slice _ _ _)) rfl) (rvt (v := (.bool _)) rfl)) [10] [0, 1, 2, 3, 4, 5, 6, 7, 8, 9, 11, 12, 13, 14, 15] [_] [_, _, _, _, _, _, _, _, _, _, _, _, _, _, _] [] _ rfl rfl (by kernel_rfl) rfl impl_nil (.inl ⟨[([115, 105, 100, 101] : Str), ([110, 117, 109, 98, 101, 114] : Str)], ⟨false, b17, 2, []⟩, HF, rfl, (by decide), ⟨by simp, fun _ => rfl, Nat.le_refl _⟩, rfl, rfl, rfl⟩)
 ·refine lk2v 0 _ w (⟨none, 0, 0⟩ : SlH) (some (⟨some ⟨b18, 0, none⟩, 1, 1⟩ : SlH)) (by rw [HW]; kernel_rfl) rfl rfl rfl uy104 key9 zv37 rfl <| mv (.tuple _) rfl <| xtr (.slice _ _ _) rfl rfl <| xtr (.bool _) rfl rfl <| agl rfl <| agb rfl <| jsr <| mvl rfl <| mvb rfl <| agl rfl <| agb rfl <| jt <| c_ret ?_
  exact j_end (own0 := []) (ro0 := []) (.inl rfl) rfl (hr2 Tryz.results29 (rvt (v := (.slice _ _ _)) rfl) (rvt (v := (.bool _)) rfl)) [11] [0, 1, 2, 3, 4, 5, 6, 7, 8, 9, 10, 12, 13, 14, 15] [_] [_, _, _, _, _, _, _, _, _, _, _, _, _, _, _] [] _ rfl rfl (by kernel_rfl) rfl impl_nil (.inl ⟨[([115, 105, 100, 101] : Str)], ⟨false, b18, 1, []⟩, HF, rfl, (by decide), ⟨by simp, fun _ => rfl, Nat.le_refl _⟩, rfl, rfl, rfl⟩)
 ·refine lk2v 0 _ w (⟨none, 0, 0⟩ : SlH) (some (⟨some ⟨b19, 0, none⟩, 2, 2⟩ : SlH)) (by rw [HW]; kernel_rfl) rfl rfl rfl uy104 key9 zv37 rfl <| mv (.tuple _) rfl <| xtr (.slice _ _ _) rfl rfl <| xtr (.bool _) rfl rfl <| agl rfl <| agb rfl <| jsr <| mvl rfl <| mvb rfl <| agl rfl <| agb rfl <| jt <| c_ret ?_
  exact j_end (own0 := []) (ro0 := []) (.inl rfl) rfl (hr2 Tryz.results29 (rvt (v := (.slice _ _ _)) rfl) (rvt (v := (.bool _)) rfl)) [12] [0, 1, 2, 3, 4, 5, 6, 7, 8, 9, 10, 11, 13, 14, 15] [_] [_, _, _, _, _, _, _, _, _, _, _, _, _, _, _] [] _ rfl rfl (by kernel_rfl) rfl impl_nil (.inl ⟨[([115, 105, 100, 101] : Str), ([110, 97, 109, 101] : Str)], ⟨false, b19, 2, []⟩, HF, rfl, (by decide), ⟨by simp, fun _ => rfl, Nat.le_refl _⟩, rfl, rfl, rfl⟩)
 ·refine lk2v 0 _ w (⟨none, 0, 0⟩ : SlH) (some (⟨some ⟨b20, 0, none⟩, 2, 2⟩ : SlH)) (by rw [HW]; kernel_rfl) rfl rfl rfl uy104 key9 zv37 rfl <| mv (.tuple _) rfl <| xtr (.slice _ _ _) rfl rfl <| xtr (.bool _) rfl rfl <| agl rfl <| agb rfl <| jsr <| mvl rfl <| mvb rfl <| agl rfl <| agb rfl <| jt <| c_ret ?_
  exact j_end (own0 := []) (ro0 := []) (.inl rfl) rfl (hr2 Tryz.results29 (rvt (v := (.slice _ _ _)) rfl) (rvt (v := (.bool _)) rfl)) [13] [0, 1, 2, 3, 4, 5, 6, 7, 8, 9, 10, 11, 12, 14, 15] [_] [_, _, _, _, _, _, _, _, _, _, _, _, _, _, _] [] _ rfl rfl (by kernel_rfl) rfl impl_nil (.inl ⟨[([115, 105, 100, 101] : Str), ([110, 97, 109, 101] : Str)], ⟨false, b20, 2, []⟩, HF, rfl, (by decide), ⟨by simp, fun _ => rfl, Nat.le_refl _⟩, rfl, rfl, rfl⟩)
 ·refine lk2v 0 _ w (⟨none, 0, 0⟩ : SlH) (some (⟨some ⟨b21, 0, none⟩, 2, 2⟩ : SlH)) (by rw [HW]; kernel_rfl) rfl rfl rfl uy104 key9 zv37 rfl <| mv (.tuple _) rfl <| xtr (.slice _ _ _) rfl rfl <| xtr (.bool _) rfl rfl <| agl rfl <| agb rfl <| jsr <| mvl rfl <| mvb rfl <| agl rfl <| agb rfl <| jt <| c_ret ?_
  exact j_end (own0 := []) (ro0 := []) (.inl rfl) rfl (hr2 Tryz.results29 (rvt (v := (.slice _ _ _)) rfl) (rvt (v := (.bool _)) rfl)) [14] [0, 1, 2, 3, 4, 5, 6, 7, 8, 9, 10, 11, 12, 13, 15] [_] [_, _, _, _, _, _, _, _, _, _, _, _, _, _, _] [] _ rfl rfl (by kernel_rfl) rfl impl_nil (.inl ⟨[([115, 105, 100, 101] : Str), ([104, 101, 120] : Str)], ⟨false, b21, 2, []⟩, HF, rfl, (by decide), ⟨by simp, fun _ => rfl, Nat.le_refl _⟩, rfl, rfl, rfl⟩)
 ·refine lk2v 0 _ w (⟨none, 0, 0⟩ : SlH) (some (⟨some ⟨b22, 0, none⟩, 1, 1⟩ : SlH)) (by rw [HW]; kernel_rfl) rfl rfl rfl uy104 key9 zv37 rfl <| mv (.tuple _) rfl <| xtr (.slice _ _ _) rfl rfl <| xtr (.bool _) rfl rfl <| agl rfl <| agb rfl <| jsr <| mvl rfl <| mvb rfl <| agl rfl <| agb rfl <| jt <| c_ret ?_
  exact j_end (own0 := []) (ro0 := []) (.inl rfl) rfl (hr2 Tryz.results29 (rvt (v := (.slice _ _ _)) rfl) (rvt (v := (.bool _)) rfl)) [15] [0, 1, 2, 3, 4, 5, 6, 7, 8, 9, 10, 11, 12, 13, 14] [_] [_, _, _, _, _, _, _, _, _, _, _, _, _, _, _] [] _ rfl rfl (by kernel_rfl) rfl impl_nil (.inl ⟨[([115, 105, 100, 101] : Str)], ⟨false, b22, 1, []⟩, HF, rfl, (by decide), ⟨by simp, fun _ => rfl, Nat.le_refl _⟩, rfl, rfl, rfl⟩)
 ·refine lk2v 0 _ w (⟨none, 0, 0⟩ : SlH) none (by simp [mget, fnd, HN0, HN1, HN2, HN3, HN4, HN5, HN6, HN7, HN8, HN9, HN10, HN11, HN12, HN13, HN14]) rfl rfl rfl uy104 key9 zv37 rfl <| mv (.tuple _) rfl <| xtr (.slice _ _ _) rfl rfl <| xtr (.bool _) rfl rfl <| agl rfl <| agb rfl <| jsr <| mvl rfl <| mvb rfl <| agl rfl <| agb rfl <| jt <| c_ret ?_
  exact j_d (own0 := []) (ro0 := []) (.inl rfl) rfl (hr2 Tryz.results29 (rvt (v := (.slice _ _ _)) rfl) (rvt (v := (.bool _)) rfl)) [0, 1, 2, 3, 4, 5, 6, 7, 8, 9, 10, 11, 12, 13, 14, 15] [_, _, _, _, _, _, _, _, _, _, _, _, _, _, _, _] rfl (by kernel_rfl) rfl (.inr ⟨HF, rfl, rfl, rfl⟩)
end Go.Proofs.YtakbbpahfclgnaaGreatDoor
namespace Go.PW
open Enc (enc val)
open Go
def LeP {α : Type} (n : Nat) : PR α → Prop
  | .inl q => q ≤ n
  | .inr (_, q) => q ≤ n
theorem LeP.of {α : Type} {n : Nat} {x : PR α} (h1 : ∀ q, x = .inl q → q ≤ n) (h2 : ∀ a q, x = .inr (a, q) → q ≤ n) : LeP n x := by
  cases x with
  | inl q => exact h1 q rfl
  | inr y => exact h2 y.1 y.2 rfl
theorem LeP.bind {α β : Type} {n : Nat} {x : PR α} {f : α → Nat → PR β} (h : LeP n x) (hf : ∀ a p, p ≤ n → LeP n (f a p)) : LeP n (bindR x f) := by
  cases x with
  | inl q => exact h
  | inr y => exact hf y.1 y.2 h
theorem leP_end {α : Type} {s : Str} {q : Nat} {a : α} (h : q ≤ s.length) : LeP s.length (endR s q a) := by
  unfold endR; split <;> exact h
theorem leP_num {s : Str} {l m p : Nat} (hp : p ≤ s.length) : LeP s.length (numR s l m p) := LeP.of (fun q h => by
  unfold numR at h
  by_cases hb : blk s p = true
  · rw [if_pos hb] at h
    have := blk_lt hb
    cases hn : pnum 10 (word s (p + 1)) with
    | none => rw [hn] at h; cases h; omega
    | some n =>
      rw [hn] at h; simp only at h
      by_cases h2 : l ≤ n ∧ n ≤ m
      · rw [if_pos h2] at h; cases h
      · rw [if_neg h2] at h; cases h; omega
  · rw [if_neg hb] at h; cases h; exact hp) fun a q h => (numR_next h).2.1
theorem leP_hex {s : Str} {n p : Nat} (hp : p ≤ s.length) : LeP s.length (hexR s n p) := LeP.of (fun q h => by
  unfold hexR at h
  by_cases hb : blk s p = true
  · rw [if_pos hb] at h
    have := blk_lt hb
    by_cases h2 : wlen s (p + 1) = 2 * n ∧ hexok (word s (p + 1)) = true
    · rw [if_pos h2] at h; cases h
    · rw [if_neg h2] at h; cases h; omega
  · rw [if_neg hb] at h; cases h; exact hp) fun a q h => (hexR_next h).2.1
theorem leP_deg {s : Str} {M : F64} {p : Nat} (hp : p ≤ s.length) : LeP s.length (degR s M p) := LeP.of (fun q h => by
  have hx := leP_hex (n := 8) hp
  cases hh : hexR s 8 p with
  | inl k => rw [degR_l hh] at h; cases h; rw [hh] at hx; exact hx
  | inr y =>
    obtain ⟨w, k⟩ := y
    have hn := hexR_next hh
    cases ho : oddB (degB w) M with
    | true => rw [degR_odd hh ho] at h; cases h; omega
    | false => rw [degR_ok hh ho] at h; cases h) fun a q h => (degR_next h).2
theorem leP_text {s : Str} {lo hi p : Nat} (hp : p ≤ s.length) : LeP s.length (textR s lo hi p) := LeP.of (fun q h => by
  unfold textR at h
  by_cases hb : blk s p = true
  · rw [if_pos hb] at h
    have := blk_lt hb
    by_cases h2 : p + 1 < s.length ∧ List.getD s (p + 1) 0 = 34 ∧ qstop s (p + 2) < s.length
    · rw [if_pos h2] at h
      cases hu : unq (qin s (p + 1)) with
      | none => rw [hu] at h; cases h; omega
      | some t =>
        rw [hu] at h; simp only at h
        by_cases h3 : lo ≤ t.length ∧ t.length ≤ hi
        · rw [if_pos h3] at h; cases h
        · rw [if_neg h3] at h; cases h; omega
    · rw [if_neg h2] at h; cases h; omega
  · rw [if_neg hb] at h; cases h; exact hp) fun a q h => (textR_next h).2
theorem leP_marks {s : Str} : ∀ (f : Nat) (ms : List UInt32) (least p : Nat), p ≤ s.length → LeP s.length (marksR s f ms least p)
  | 0, ms, least, p, hp => by unfold marksR; exact Nat.zero_le _
  | f + 1, ms, least, p, hp => by
    have hx := leP_num (l := least) (m := 4294967295) hp
    cases hh : numR s least 4294967295 p with
    | inl k => rw [marksR_l hh (by omega)]; rw [hh] at hx; exact hx
    | inr y =>
      obtain ⟨n, k⟩ := y
      have hn := numR_next hh
      by_cases hl : ms.length = 100
      · rw [marksR_full hh (by omega) hl]; show p + 1 ≤ s.length; omega
      · by_cases hk : k < s.length
        · rw [marksR_more hh (by omega) hl hk]; exact leP_marks f _ _ _ (by omega)
        · rw [marksR_end hh (by omega) hl hk]; exact hn.2.1
theorem leP_parse (s : Str) : LeP s.length (parseR s) := by
  have h0 : (word s 0).length ≤ s.length := by rw [word_length]; have := wlen_le s 0; omega
  unfold parseR
  split
  · exact (leP_text h0).bind fun _ _ h => leP_end h
  split
  · exact (leP_marks _ _ _ _ h0).bind fun _ _ h => leP_end h
  split
  · exact (leP_marks _ _ _ _ h0).bind fun _ _ h => leP_end h
  split
  · exact (leP_deg h0).bind fun _ _ h => (leP_deg h).bind fun _ _ h => (leP_text h).bind fun _ _ h => leP_end h
  split
  · exact (leP_num h0).bind fun _ _ h => (leP_text h).bind fun _ _ h => leP_end h
  split
  · exact (leP_num h0).bind fun _ _ h => leP_end h
  split
  · exact (leP_text h0).bind fun _ _ h => (leP_num h).bind fun _ _ h => (leP_hex h).bind fun _ _ h => leP_end h
  · exact Nat.zero_le _
theorem parseR_le {s : Str} {q : Nat} (h : parseR s = .inl q) : q ≤ s.length := by
  have := leP_parse s
  rw [h] at this; exact this
section
variable {fit : UInt8 → Str → Bool} {why : Nat} {s : Str} {acc : List Str} {k : UInt8} {p a : Nat} {w : Str} {r : List (Nat × Str)}
theorem args_nil (h : wordsL s p = []) (ks : List UInt8) : argsR fit why s acc (k :: ks) (wordsL s p) = .inl (s.length, why) := by rw [h]; rfl
theorem args_cbad {q : Nat} (h : wordsL s p = (a, w) :: r) (hk : k = 99) (hp : parseR (s.drop a) = .inl q) (ks : List UInt8) : argsR fit why s acc (k :: ks) (wordsL s p) = .inl (a + q, 90) := by
  rw [h, argsR, if_pos hk, hp]
theorem args_cok {x : (Con × List UInt32) × Nat} (h : wordsL s p = (a, w) :: r) (hk : k = 99) (hp : parseR (s.drop a) = .inr x) {ks : List UInt8} (hks : ks = []) : argsR fit why s acc (k :: ks) (wordsL s p) = argsR fit why s (acc ++ [s.drop a]) ks (wordsL s s.length) := by
  subst hks
  have e : argsR fit why s (acc ++ [s.drop a]) [] (wordsL s s.length) = .inr (acc ++ [s.drop a], []) := by rw [wordsL_out (by omega)]; rfl
  rw [e, h, argsR, if_pos hk, hp]
theorem args_no (h : wordsL s p = (a, w) :: r) (hk : k ≠ 99) (hp : fit k w = false) (ks : List UInt8) : argsR fit why s acc (k :: ks) (wordsL s p) = .inl (a, why) := by
  rw [h, argsR, if_neg hk, if_neg (by rw [hp]; simp)]
theorem args_yes (h : wordsL s p = (a, w) :: r) (hk : k ≠ 99) (hp : fit k w = true) (ks : List UInt8) : argsR fit why s acc (k :: ks) (wordsL s p) = argsR fit why s (acc ++ [w]) ks r := by
  rw [h, argsR, if_neg hk, if_pos hp]
end
theorem kU_content : kU [99, 111, 110, 116, 101, 110, 116] = 99 := by kernel_rfl
theorem kU_ne {k : Str} (hk : k ∈ k16.map (·.1)) (hc : k ≠ [99, 111, 110, 116, 101, 110, 116]) : kU k ≠ 99 := by
  simp only [k16, List.map_cons, List.map_nil, List.mem_cons, List.not_mem_nil, or_false] at hk
  rcases hk with rfl | rfl | rfl | rfl | rfl | rfl | rfl | rfl | rfl | rfl
  all_goals first | exact absurd rfl hc | decide
section
variable {fit : UInt8 → Str → Bool} {form : Str → Option (List UInt8)} {first : Str} {why : Nat} {s : Str} {n : Nat}
theorem line_long (h : 4000 < s.length) : lineR fit form first why s n = .inl (4000, 2) := by rw [lineR, if_pos h]
theorem line_blank (h : ¬ 4000 < s.length) (hw : wordsL s 0 = []) : lineR fit form first why s n = .inr none := by rw [lineR, if_neg h, hw]
theorem line_note {a : Nat} {w : Str} {r : List (Nat × Str)} (h : ¬ 4000 < s.length) (hw : wordsL s 0 = (a, w) :: r) (h35 : List.getD w 0 0 = 35) : lineR fit form first why s n = .inr none := by rw [lineR, if_neg h, hw]; simp only; rw [if_pos h35]
theorem line_many {a : Nat} {w : Str} {r : List (Nat × Str)} (h : ¬ 4000 < s.length) (hw : wordsL s 0 = (a, w) :: r) (h35 : ¬ List.getD w 0 0 = 35) (hn : 400 ≤ n) : lineR fit form first why s n = .inl (0, 2) := by rw [lineR, if_neg h, hw]; simp only; rw [if_neg h35, if_pos hn]
theorem line_unknown {a : Nat} {w : Str} {r : List (Nat × Str)} (h : ¬ 4000 < s.length) (hw : wordsL s 0 = (a, w) :: r) (h35 : ¬ List.getD w 0 0 = 35) (hn : ¬ 400 ≤ n) (hf : form w = none) : lineR fit form first why s n = .inl (a, why) := by rw [lineR, if_neg h, hw]; simp only; rw [if_neg h35, if_neg hn, hf]
theorem line_place {a : Nat} {w : Str} {r : List (Nat × Str)} {ks : List UInt8} (h : ¬ 4000 < s.length) (hw : wordsL s 0 = (a, w) :: r) (h35 : ¬ List.getD w 0 0 = 35) (hn : ¬ 400 ≤ n) (hf : form w = some ks) (hd : decide (w = first) ≠ decide (n = 0)) : lineR fit form first why s n = .inl (a, why) := by rw [lineR, if_neg h, hw]; simp only; rw [if_neg h35, if_neg hn, hf]; simp only; rw [if_pos hd]
theorem line_args {a : Nat} {w : Str} {r : List (Nat × Str)} {ks : List UInt8} (h : ¬ 4000 < s.length) (hw : wordsL s 0 = (a, w) :: r) (h35 : ¬ List.getD w 0 0 = 35) (hn : ¬ 400 ≤ n) (hf : form w = some ks) (hd : ¬ decide (w = first) ≠ decide (n = 0)) : lineR fit form first why s n = match argsR fit why s [] ks r with
    | .inl e => .inl e
    | .inr (l, []) => .inr (some (w, l))
    | .inr (_, (a', _) :: _) => .inl (a', why) := by rw [lineR, if_neg h, hw]; simp only; rw [if_neg h35, if_neg hn, hf]; simp only; rw [if_neg hd]; rfl
theorem line_ok {a : Nat} {w : Str} {r : List (Nat × Str)} {ks : List UInt8} {l : List Str} (h : ¬ 4000 < s.length) (hw : wordsL s 0 = (a, w) :: r) (h35 : ¬ List.getD w 0 0 = 35) (hn : ¬ 400 ≤ n) (hf : form w = some ks) (hd : ¬ decide (w = first) ≠ decide (n = 0)) (ha : argsR fit why s [] ks r = .inr (l, [])) : lineR fit form first why s n = .inr (some (w, l)) := by rw [line_args h hw h35 hn hf hd, ha]
theorem line_more {a a' : Nat} {w x : Str} {r t : List (Nat × Str)} {ks : List UInt8} {l : List Str} (h : ¬ 4000 < s.length) (hw : wordsL s 0 = (a, w) :: r) (h35 : ¬ List.getD w 0 0 = 35) (hn : ¬ 400 ≤ n) (hf : form w = some ks) (hd : ¬ decide (w = first) ≠ decide (n = 0)) (ha : argsR fit why s [] ks r = .inr (l, (a', x) :: t)) : lineR fit form first why s n = .inl (a', why) := by rw [line_args h hw h35 hn hf hd, ha]
theorem line_bad {a : Nat} {w : Str} {r : List (Nat × Str)} {ks : List UInt8} {e : Nat × Nat} (h : ¬ 4000 < s.length) (hw : wordsL s 0 = (a, w) :: r) (h35 : ¬ List.getD w 0 0 = 35) (hn : ¬ 400 ≤ n) (hf : form w = some ks) (hd : ¬ decide (w = first) ≠ decide (n = 0)) (ha : argsR fit why s [] ks r = .inl e) : lineR fit form first why s n = .inl e := by rw [line_args h hw h35 hn hf hd, ha]
theorem line_lt {x : Str × List Str} (h : lineR fit form first why s n = .inr (some x)) : n < 400 := by
  refine Decidable.byContradiction fun hn => ?_
  unfold lineR at h
  by_cases h1 : 4000 < s.length
  · rw [if_pos h1] at h; cases h
  · rw [if_neg h1] at h
    cases hw : wordsL s 0 with
    | nil => rw [hw] at h; cases h
    | cons y r =>
      obtain ⟨a, w⟩ := y
      rw [hw] at h; simp only at h
      by_cases h2 : List.getD w 0 0 = 35
      · rw [if_pos h2] at h; cases h
      · rw [if_neg h2, if_pos (by omega)] at h; cases h
variable {ls : List Str} {i : Nat} {acc : List Cm}
theorem script_cmd {w : Str} {l : List Str} (hi : i < ls.length) (h : lineR fit form first why (List.getD ls i []) acc.length = .inr (some (w, l))) : scriptL fit form first why (ls.drop i) i acc = scriptL fit form first why (ls.drop (i + 1)) (i + 1) (acc ++ [⟨i + 1, w, l⟩]) := by
  rw [show List.getD ls i [] = ls[i] by simp [List.getD, hi]] at h
  rw [List.drop_eq_getElem_cons hi, scriptL, h]
theorem script_none (hi : i < ls.length) (h : lineR fit form first why (List.getD ls i []) acc.length = .inr none) : scriptL fit form first why (ls.drop i) i acc = scriptL fit form first why (ls.drop (i + 1)) (i + 1) acc := by
  rw [show List.getD ls i [] = ls[i] by simp [List.getD, hi]] at h
  rw [List.drop_eq_getElem_cons hi, scriptL, h]
theorem script_bad {a e : Nat} (hi : i < ls.length) (h : lineR fit form first why (List.getD ls i []) acc.length = .inl (a, e)) : scriptL fit form first why (ls.drop i) i acc = .inl (i + 1, a, e) := by
  rw [show List.getD ls i [] = ls[i] by simp [List.getD, hi]] at h
  rw [List.drop_eq_getElem_cons hi, scriptL, h]
theorem script_end (hi : ls.length ≤ i) : scriptL fit form first why (ls.drop i) i acc = .inr acc := by rw [List.drop_of_length_le hi]; rfl
theorem scriptR_long (h : 262144 < s.length) : scriptR fit form first why s = .inl (0, 0, 2) := by rw [scriptR, if_pos h]
theorem scriptR_in (h : ¬ 262144 < s.length) : scriptR fit form first why s = scriptL fit form first why (linesL s) 0 [] := by rw [scriptR, if_neg h]
end
theorem getD_line {s : Str} {i : Nat} (hi : i < (linesL s).length) : (List.getD (linesL s) i []).length ≤ s.length := by
  rw [show List.getD (linesL s) i [] = (linesL s)[i] by simp [List.getD, hi]]
  exact linesL_mem _ s (Nat.le_refl _) _ (List.getElem_mem hi)
theorem split_len (s : Str) : (splitL s).length ≤ s.length + 1 := by
  rw [split_count s.length s (Nat.le_refl _)]; have : s.count 10 ≤ s.length := List.count_le_length; omega
theorem bne_t {P : Prop} [Decidable P] {n : Nat} (h : (decide P != decide ((n : Int) = 0)) = true) : decide P ≠ decide (n = 0) := by
  intro e; rw [e] at h
  by_cases hn : n = 0 <;> simp [hn] at h
theorem bne_f {P : Prop} [Decidable P] {n : Nat} (h : (decide P != decide ((n : Int) = 0)) = false) : ¬ decide P ≠ decide (n = 0) := fun e => by
  by_cases hn : n = 0
  · subst hn; by_cases hp : P <;> simp [hp] at h e
  · have : ¬ (n : Int) = 0 := by omega
    by_cases hp : P <;> simp [hp, this, hn] at h e
end Go.PW
namespace Go.Proofs.YtakbbpahfclgnaaGreatDoor
open Go Go.Proofs Go.PW
open Go.PW.Enc (enc val)
theorem ty37 : Ty Tryz.prog 37 1 false := ⟨by kernel_rfl, by kernel_rfl⟩
theorem lay29 : ∀ fs, Tryz.prog.underlying 29 = some (.struct fs) → Lay Tryz.prog fs [(0, 1), (1, 1), (2, 1)] := fun fs h => by rw [Tryz.underlying29] at h; cases h; unfold Lay; kernel_rfl
theorem z29 : Zt Tryz.prog 29 (.agg ⟨cat [pt (0 : Int), pt (0 : Int), pt (0 : Int)]⟩) := by unfold Zt; kernel_rfl
theorem take_ct (b c : Nat) (s k wd : Str) (p : Nat) (o : Ow) (acc : List Str) (hs : s.length ≤ 4000) (hp : p ≤ s.length) (ho : o.ok acc) (hacc : acc.length ≤ 5) (hk : k ∈ k16.map (·.1)) (eu : TypeId) (ev : Value) (ru : TypeId) (rv : Value) : Ct Tryz.prog 30 [.pointer (some ⟨b, 0, none⟩), strV k, .pointer (some ⟨c, 0, none⟩)] [[(b, .cells (cat [pt s, p1 (.int .i64 ((p : Nat) : Int))]) 63)], [(c, .cells (cat [pt (0 : Int), pt wd, p1 (.slice o.adr acc.length o.cap)]) 39)], o.seg acc 9] [tPow10 9, tDb64 11, tIf 7 eu ev, tIf 8 ru rv] (fun v w r => (∃ (x : Str) (q : Nat) (o' : Ow), o'.ok (acc ++ [x]) ∧ (x.length ≤ s.length ∧ q ≤ s.length) ∧ (∀ ks, (kU k = 99 → ks = []) → argsR fit16 160 s acc (kU k :: ks) (wordsL s p) = argsR fit16 160 s (acc ++ [x]) ks (wordsL s q)) ∧ v = .pointer none ∧ w = [[(b, .cells (cat [pt s, p1 (.int .i64 ((q : Nat) : Int))]) 63)], [(c, .cells (cat [pt (0 : Int), pt wd, p1 (.slice o'.adr (acc ++ [x]).length o'.cap)]) 39)], o'.seg (acc ++ [x]) 9] ∧ r = []) ∨ (∃ (f a e : Nat), a ≤ 10000 ∧ (∀ ks, argsR fit16 160 s acc (kU k :: ks) (wordsL s p) = .inl (a, e)) ∧ v = .pointer (some ⟨f, 0, none⟩) ∧ w = [[(f, .cells (cat [pt (0 : Int), pt (a : Int), pt (e : Int)]) 29)]] ∧ r = [])) := by
 refine ct_enter Tryz.func30 rfl Tryz.ntmps30 (by kernel_rfl) rfl fun w0 => ?_
 refine csr <| agp rfl <| jsr <| mvp rfl <| cal (next_ct b s p (by omega) (by omega)) [0] [1, 2] [_, _] rfl rfl rfl (by kernel_rfl) impl_nil rfl ?_; rintro _ _ _ (⟨wa1, hw1, hw1p, hw1l, rfl, rfl, rfl⟩ | ⟨wa1, hw1, hw1l, rfl, rfl, rfl⟩)
 ·have hw1w := word_length s wa1; refine ⟨trivial, ?_⟩
  refine mv (.tuple _) rfl <| xtr (.string _) rfl rfl <| xtr (.int _ _) rfl rfl <| xtr (.bool _) rfl rfl <| ags rfl <| agi rfl <| agb rfl <| jt <| c_seq <| csr <| mvb rfl <| not_ rfl <| jt <| c_false rfl <| c_skip <| e_then <| c_seq <| csr <| mvs rfl <| scmp (a := k) (b := ([99, 111, 110, 116, 101, 110, 116] : Str)) _ rfl rfl uy9 rfl <| jt <| c_cond rfl (fun h1 => ?_) (fun h1 => ?_)
  ·replace h1 := of_decide_eq_true h1
   refine csr <| mvp rfl <| mvp rfl <| nlc rfl <| fad rfl uy63 rfl ty9.sz <| ldp 2 0 _ rfl rfl rfl rfl ty9 <| lenT (s := s) rfl uy9 <| nlc rfl <| fad rfl uy63 rfl ty3.sz <| stp 2 1 _ (pt (s.length : Int)) rfl rfl rfl rfl rfl rfl ty3 ⟨trivial, ?_⟩
   refine jsr <| mvp rfl <| nlc rfl <| fad rfl uy63 rfl ty9.sz <| ldp 2 0 _ rfl rfl rfl rfl ty9 <| mvi rfl <| cutT (s := s) wa1 s.length rfl uy9 ⟨_, rfl⟩ rfl (by first | omega | (simp; done) | (simp; omega)) (by first | omega | (simp; done) | (simp; omega)) (List.drop wa1 s) (cut_hi _ _) <| ags rfl <| jt <| c_seq <| csr <| mvs rfl <| cal (Parse_ct (List.drop wa1 s) (by rw [List.length_drop]; omega) eu ev ru rv) [] [0, 1, 2] [_, _, _] rfl rfl rfl (by kernel_rfl) (impl_cons (impl_at 0 rfl) (impl_cons (impl_at 1 rfl) (impl_cons (impl_at 2 rfl) (impl_cons (impl_at 3 rfl) impl_nil)))) rfl ?_; rintro _ _ _ (⟨pc2, pm2, po2, pq2, hpA2, hpm2, hpo2, rfl, rfl, rfl⟩ | ⟨pq2, hpB2, rfl, rfl, rfl⟩)
   ·refine ⟨trivial, ?_⟩
    refine mv (.tuple _) rfl <| xtr (.agg _) rfl rfl <| xtr (.int _ _) rfl rfl <| xtr (.int _ _) rfl rfl <| alo [pt (0 : Int), pt ([] : Str), p1 (.slice none 0 0), pt (⟨0⟩ : F64), pt (⟨0⟩ : F64), pt (0 : UInt64), pt (zarr : (Arr UInt8 32))] _ z76 rfl fun b11 => ⟨trivial, ?_⟩
    refine stw 4 _ [pt pc2.kind, pt pc2.text, p1 (.slice po2.adr pm2.length po2.cap), pt pc2.lat, pt pc2.long, pt pc2.number, pt pc2.key] rfl rfl rfl rfl ty76 ⟨trivial, ?_⟩
    refine agi rfl <| agi rfl <| jsr <| mvi rfl <| cmp false rfl rfl rfl <| jt <| c_false rfl <| c_skip <| e_then <| c_reg <| mvs rfl <| ags rfl <| jsr <| mvp rfl <| mvp rfl <| nlc rfl <| fad rfl uy39 rfl ty37.sz <| ldp 0 2 _ rfl rfl rfl rfl ty37 <| mvs rfl <| bsl (α := Str) ([(List.drop wa1 s)]) uy37 ty9.sz rfl (by decide) z9 rfl fun b73 => ⟨trivial, ?_⟩
    refine app 1 o acc ([(List.drop wa1 s)] : List Str) ho rfl ⟨rfl, rfl, rfl⟩ rfl rfl (gives_own (ys := ([(List.drop wa1 s)] : List Str)) (pre := []) (post := []) 5 rfl (by simp) rfl) uy37 uy37 (.inl ⟨_, rfl⟩) ty9.sz by9 z9 rfl (by simp; omega) rfl fun o74_3 hk74_3 => ⟨trivial, ?_⟩
    refine nlc rfl <| fad rfl uy39 rfl ty37.sz <| stp 0 2 _ (p1 (.slice o74_3.adr (acc ++ ([(List.drop wa1 s)] : List Str)).length o74_3.cap)) rfl rfl rfl rfl rfl rfl ty37 ⟨trivial, ?_⟩
    refine jsr <| agp rfl <| jt <| c_ret ?_
    exact j_end (own0 := [[(b, .cells (cat [pt s, p1 (.int .i64 ((p : Nat) : Int))]) 63)], [(c, .cells (cat [pt (0 : Int), pt wd, p1 (.slice o.adr acc.length o.cap)]) 39)], o.seg acc 9]) (ro0 := [tPow10 9, tDb64 11, tIf 7 eu ev, tIf 8 ru rv]) (.inl rfl) rfl (hr1 Tryz.results30 (rvt (v := (.pointer _)) rfl)) [2, 0, 1] [3, 4, 5] [_, _, _] [_, _, _] [] _ rfl rfl (by kernel_rfl) rfl impl_nil (.inl ⟨_, _, o74_3, hk74_3, ⟨by rw [List.length_drop]; omega, by omega⟩, fun ks hks => args_cok hw1 (by rw [show k = _ by assumption]; exact kU_content) hpA2 (hks (by rw [show k = _ by assumption]; exact kU_content)), rfl, rfl, rfl⟩)
   ·have hpC2 := parseR_le hpB2; rw [List.length_drop] at hpC2; refine ⟨trivial, ?_⟩
    refine mv (.tuple _) rfl <| xtr (.agg _) rfl rfl <| xtr (.int _ _) rfl rfl <| xtr (.int _ _) rfl rfl <| alo [pt (0 : Int), pt ([] : Str), p1 (.slice none 0 0), pt (⟨0⟩ : F64), pt (⟨0⟩ : F64), pt (0 : UInt64), pt (zarr : (Arr UInt8 32))] _ z76 rfl fun b11 => ⟨trivial, ?_⟩
    refine stw 3 _ [pt (0 : Int), pt ([] : Str), p1 (.slice none 0 0), pt (⟨0⟩ : F64), pt (⟨0⟩ : F64), pt (0 : UInt64), pt (zarr : (Arr UInt8 32))] rfl rfl rfl rfl ty76 ⟨trivial, ?_⟩
    refine agi rfl <| agi rfl <| jsr <| mvi rfl <| cmp true rfl rfl rfl <| jt <| c_true rfl <| csr <| mvi rfl <| mvi rfl <| addi rfl rfl rfl (by omega) <| mvi rfl <| bld [pt (0 : Int), pt (0 : Int), pt (0 : Int)] [(1, p1 (.int .i64 ((wa1 : Int) + (pq2 : Int)))), (2, pt (90 : Int))] _ uy29 (lay29 _ uy29) z29 rfl rfl rfl <| bxx [pt (0 : Int), p1 (.int .i64 ((wa1 : Int) + (pq2 : Int))), pt (90 : Int)] _ rfl rfl fun b58 => ⟨trivial, ?_⟩
    refine agp rfl <| jt <| c_ret ?_
    exact j_end (own0 := [[(b, .cells (cat [pt s, p1 (.int .i64 ((p : Nat) : Int))]) 63)], [(c, .cells (cat [pt (0 : Int), pt wd, p1 (.slice o.adr acc.length o.cap)]) 39)], o.seg acc 9]) (ro0 := [tPow10 9, tDb64 11, tIf 7 eu ev, tIf 8 ru rv]) (.inl rfl) rfl (hr1 Tryz.results30 (rvt (v := (.pointer _)) rfl)) [4] [0, 1, 2, 3] [_] [_, _, _, _] [] _ rfl rfl (by kernel_rfl) rfl impl_nil (.inr ⟨b58, _, 90, by omega, fun ks => args_cbad hw1 (by rw [show k = _ by assumption]; exact kU_content) hpB2 ks, rfl, rfl, rfl⟩)
  ·replace h1 := of_decide_eq_false h1
   refine csr <| mvs rfl <| mvs rfl <| cal (lfits_ct k (word s wa1) hk (by assumption) (by omega) (by omega)) [] [0, 1, 2] [_, _, _] rfl rfl rfl (by kernel_rfl) impl_nil rfl ?_; rintro _ _ _ ⟨rfl, rfl, rfl⟩; refine ⟨trivial, ?_⟩
   refine not_ rfl <| jt <| c_cond rfl (fun h2 => ?_) (fun h2 => ?_)
   ·refine csr <| mvi rfl <| bld [pt (0 : Int), pt (0 : Int), pt (0 : Int)] [(1, p1 (.int .i64 (wa1 : Int))), (2, pt (160 : Int))] _ uy29 (lay29 _ uy29) z29 rfl rfl rfl <| bxx [pt (0 : Int), p1 (.int .i64 (wa1 : Int)), pt (160 : Int)] _ rfl rfl fun b66 => ⟨trivial, ?_⟩
    refine agp rfl <| jt <| c_ret ?_
    exact j_end (own0 := [[(b, .cells (cat [pt s, p1 (.int .i64 ((p : Nat) : Int))]) 63)], [(c, .cells (cat [pt (0 : Int), pt wd, p1 (.slice o.adr acc.length o.cap)]) 39)], o.seg acc 9]) (ro0 := [tPow10 9, tDb64 11, tIf 7 eu ev, tIf 8 ru rv]) (.inl rfl) rfl (hr1 Tryz.results30 (rvt (v := (.pointer _)) rfl)) [3] [0, 1, 2] [_] [_, _, _] [] _ rfl rfl (by kernel_rfl) rfl impl_nil (.inr ⟨b66, _, 160, by omega, fun ks => args_no hw1 (kU_ne hk (by assumption)) (notT (by assumption)) ks, rfl, rfl, rfl⟩)
   ·refine c_skip <| e_then <| csr <| mvp rfl <| mvp rfl <| nlc rfl <| fad rfl uy39 rfl ty37.sz <| ldp 0 2 _ rfl rfl rfl rfl ty37 <| mvs rfl <| bsl (α := Str) ([(word s wa1)]) uy37 ty9.sz rfl (by decide) z9 rfl fun b73 => ⟨trivial, ?_⟩
    refine app 1 o acc ([(word s wa1)] : List Str) ho rfl ⟨rfl, rfl, rfl⟩ rfl rfl (gives_own (ys := ([(word s wa1)] : List Str)) (pre := []) (post := []) 3 rfl (by simp) rfl) uy37 uy37 (.inl ⟨_, rfl⟩) ty9.sz by9 z9 rfl (by simp; omega) rfl fun o74_4 hk74_4 => ⟨trivial, ?_⟩
    refine nlc rfl <| fad rfl uy39 rfl ty37.sz <| stp 0 2 _ (p1 (.slice o74_4.adr (acc ++ ([(word s wa1)] : List Str)).length o74_4.cap)) rfl rfl rfl rfl rfl rfl ty37 ⟨trivial, ?_⟩
    refine jsr <| agp rfl <| jt <| c_ret ?_
    exact j_end (own0 := [[(b, .cells (cat [pt s, p1 (.int .i64 ((p : Nat) : Int))]) 63)], [(c, .cells (cat [pt (0 : Int), pt wd, p1 (.slice o.adr acc.length o.cap)]) 39)], o.seg acc 9]) (ro0 := [tPow10 9, tDb64 11, tIf 7 eu ev, tIf 8 ru rv]) (.inl rfl) rfl (hr1 Tryz.results30 (rvt (v := (.pointer _)) rfl)) [2, 0, 1] [3] [_, _, _] [_] [] _ rfl rfl (by kernel_rfl) rfl impl_nil (.inl ⟨_, _, o74_4, hk74_4, ⟨by omega, by omega⟩, fun ks hks => args_yes hw1 (kU_ne hk (by assumption)) (notF (by assumption)) ks, rfl, rfl, rfl⟩)
 ·refine ⟨trivial, ?_⟩
  refine mv (.tuple _) rfl <| xtr (.string _) rfl rfl <| xtr (.int _ _) rfl rfl <| xtr (.bool _) rfl rfl <| ags rfl <| agi rfl <| agb rfl <| jt <| c_seq <| csr <| mvb rfl <| not_ rfl <| jt <| c_true rfl <| csr <| mvp rfl <| nlc rfl <| fad rfl uy63 rfl ty9.sz <| ldp 2 0 _ rfl rfl rfl rfl ty9 <| lenT (s := s) rfl uy9 <| bld [pt (0 : Int), pt (0 : Int), pt (0 : Int)] [(1, pt (s.length : Int)), (2, pt (160 : Int))] _ uy29 (lay29 _ uy29) z29 rfl rfl rfl <| bxx [pt (0 : Int), pt (s.length : Int), pt (160 : Int)] _ rfl rfl fun b28 => ⟨trivial, ?_⟩
  refine agp rfl <| jt <| c_ret ?_
  exact j_end (own0 := [[(b, .cells (cat [pt s, p1 (.int .i64 ((p : Nat) : Int))]) 63)], [(c, .cells (cat [pt (0 : Int), pt wd, p1 (.slice o.adr acc.length o.cap)]) 39)], o.seg acc 9]) (ro0 := [tPow10 9, tDb64 11, tIf 7 eu ev, tIf 8 ru rv]) (.inl rfl) rfl (hr1 Tryz.results30 (rvt (v := (.pointer _)) rfl)) [3] [0, 1, 2] [_] [_, _, _] [] _ rfl rfl (by kernel_rfl) rfl impl_nil (.inr ⟨b28, _, 160, by omega, fun ks => args_nil hw1 ks, rfl, rfl, rfl⟩)
end Go.Proofs.YtakbbpahfclgnaaGreatDoor
namespace Go.Proofs.YtakbbpahfclgnaaGreatDoor
open Go Go.Proofs Go.PW
open Go.PW.Enc (enc val)
theorem lay63 : ∀ fs, Tryz.prog.underlying 63 = some (.struct fs) → Lay Tryz.prog fs [(0, 1), (1, 1)] := fun fs h => by rw [Tryz.underlying63] at h; cases h; unfold Lay; kernel_rfl
theorem z63 : Zt Tryz.prog 63 (.agg ⟨cat [pt ([] : Str), pt (0 : Int)]⟩) := by unfold Zt; kernel_rfl
theorem lay39 : ∀ fs, Tryz.prog.underlying 39 = some (.struct fs) → Lay Tryz.prog fs [(0, 1), (1, 1), (2, 1)] := fun fs h => by rw [Tryz.underlying39] at h; cases h; unfold Lay; kernel_rfl
theorem z39 : Zt Tryz.prog 39 (.agg ⟨cat [pt (0 : Int), pt ([] : Str), p1 (.slice none 0 0)]⟩) := by unfold Zt; kernel_rfl
theorem knd_mem {ks : List Str} (h : knd ks = true) {i : Nat} (hi : i < ks.length) : List.getD ks i [] ∈ k16.map (·.1) := by
  unfold knd at h
  rw [Bool.and_eq_true, List.all_eq_true] at h
  have := h.1 _ (show List.getD ks i [] ∈ ks by simp [List.getD, hi])
  simpa using this
theorem lastC_at {c : Str} (hc : c = ([99, 111, 110, 116, 101, 110, 116] : Str)) : ∀ {ks : List Str} {i : Nat}, lastC ks = true → i < ks.length → List.getD ks i [] = c → ks.drop (i + 1) = []
  | [], i, _, hi, _ => by simp at hi
  | k :: r, 0, h, hi, e => by
    simp only [lastC, Bool.and_eq_true, Bool.or_eq_true, decide_eq_true_eq] at h
    have e' : k = c := e
    rcases h.1 with h1 | h1
    · exact absurd (e'.trans hc) h1
    · simpa using h1
  | k :: r, i + 1, h, hi, e => by
    simp only [lastC, Bool.and_eq_true] at h
    have := lastC_at hc (ks := r) (i := i) h.2 (by simpa using hi) (by simpa [List.getD] using e)
    simpa using this
theorem knd_last {ks : List Str} (h : knd ks = true) {i : Nat} (hi : i < ks.length) (hk : kU (List.getD ks i []) = 99) : (ks.drop (i + 1)).map kU = [] := by
  have hm := knd_mem h hi
  have hc : List.getD ks i [] = ([99, 111, 110, 116, 101, 110, 116] : Str) := Decidable.byContradiction fun hc => kU_ne hm hc hk
  unfold knd at h
  rw [Bool.and_eq_true] at h
  rw [lastC_at rfl h.2 hi hc]; rfl
theorem drop_kU {ks : List Str} {i : Nat} (hi : i < ks.length) : (ks.drop i).map kU = kU (List.getD ks i []) :: (ks.drop (i + 1)).map kU := by
  rw [List.drop_eq_getElem_cons hi, List.map_cons, show List.getD ks i [] = ks[i] by simp [List.getD, hi]]
theorem parseLine_ct (s : Str) (n : Nat) (hs : s.length ≤ 1000000) (hn : n ≤ 1000000) (eu : TypeId) (ev : Value) (ru : TypeId) (rv : Value) : Ct Tryz.prog 16 [strV s, .int .i64 (n : Int)] [] [tPow10 9, tDb64 11, tIf 7 eu ev, tIf 8 ru rv] (fun v w r => (∃ (wd : Str) (acc : List Str) (o' : Ow) (c : Nat), lineR fit16 form16 ([98, 101, 103, 105, 110] : Str) 160 s n = .inr (some (wd, acc)) ∧ o'.ok acc ∧ acc.length ≤ 5 ∧ wd.length ≤ 4000 ∧ v = .tuple #[.pointer (some ⟨c, 0, none⟩), .pointer none] ∧ w = [[(c, .cells (cat [pt (0 : Int), pt wd, p1 (.slice o'.adr acc.length o'.cap)]) 39)], o'.seg acc 9] ∧ r = []) ∨ (lineR fit16 form16 ([98, 101, 103, 105, 110] : Str) 160 s n = .inr none ∧ v = .tuple #[.pointer none, .pointer none] ∧ w = [] ∧ r = []) ∨ (∃ (f a e : Nat), a ≤ 10000 ∧ lineR fit16 form16 ([98, 101, 103, 105, 110] : Str) 160 s n = .inl (a, e) ∧ v = .tuple #[.pointer none, .pointer (some ⟨f, 0, none⟩)] ∧ w = [[(f, .cells (cat [pt (0 : Int), pt (a : Int), pt (e : Int)]) 29)]] ∧ r = [])) := by
 refine ct_enter Tryz.func16 rfl Tryz.ntmps16 (by kernel_rfl) rfl fun w0 => ?_
 refine csr <| agp rfl <| agp rfl <| jt <| c_seq <| csr <| mvs rfl <| lenT (s := s) rfl uy9 <| cmp _ rfl rfl rfl <| jt <| c_cond rfl (fun h1 => ?_) (fun h1 => ?_)
 ·replace h1 := of_decide_eq_true h1
  refine csr <| bld [pt (0 : Int), pt (0 : Int), pt (0 : Int)] [(1, pt (4000 : Int)), (2, pt (2 : Int))] _ uy29 (lay29 _ uy29) z29 rfl rfl rfl <| bxx [pt (0 : Int), pt (4000 : Int), pt (2 : Int)] _ rfl rfl fun b23 => ⟨trivial, ?_⟩
  refine agp rfl <| agp rfl <| jt <| c_ret ?_
  exact j_end (own0 := []) (ro0 := [tPow10 9, tDb64 11, tIf 7 eu ev, tIf 8 ru rv]) (.inl rfl) rfl (hr2 Tryz.results16 (rvt (v := (.pointer _)) rfl) (rvt (v := (.pointer _)) rfl)) [0] [] [_] [] [] _ rfl rfl (by kernel_rfl) rfl impl_nil (.inr (.inr ⟨b23, 4000, 2, by omega, line_long (by omega), rfl, rfl, rfl⟩))
 ·replace h1 := of_decide_eq_false h1
  refine c_skip <| e_then <| csr <| mvs rfl <| bld [pt ([] : Str), pt (0 : Int)] [(0, pt s)] _ uy63 (lay63 _ uy63) z63 rfl rfl rfl <| bxx [pt s, pt (0 : Int)] _ rfl rfl fun b26 => ⟨trivial, ?_⟩
  refine agp rfl <| jsr <| mvp rfl <| cal (next_ct b26 s 0 (by omega) (by omega)) [0] [] [] rfl rfl rfl (by kernel_rfl) impl_nil rfl ?_; rintro _ _ _ (⟨wa1, hw1, hw1p, hw1l, rfl, rfl, rfl⟩ | ⟨wa1, hw1, hw1l, rfl, rfl, rfl⟩)
  ·have hw1w := word_length s wa1; refine ⟨trivial, ?_⟩
   refine mv (.tuple _) rfl <| xtr (.string _) rfl rfl <| xtr (.int _ _) rfl rfl <| xtr (.bool _) rfl rfl <| ags rfl <| agi rfl <| agb rfl <| jt <| c_seq <| csr <| mvb rfl <| not_ rfl <| mvb rfl <| g_on rfl rfl rfl <| mvs rfl <| g_on rfl rfl rfl <| idxT (s := (word s wa1)) 0 rfl rfl uy9 rfl (by first | omega | (simp; done) | (simp; omega) | (simp at *; omega)) <| g_on rfl rfl rfl <| equ8 (a := (List.getD (word s wa1) 0 0)) (b := (35 : UInt8)) _ rfl rfl rfl <| pkf (.bool _) rfl rfl <| jt <| c_cond rfl (fun h2 => ?_) (fun h2 => ?_)
   ·replace h2 := of_decide_eq_true h2
    refine csr <| agp rfl <| agp rfl <| jt <| c_ret ?_
    exact j_d (own0 := []) (ro0 := [tPow10 9, tDb64 11, tIf 7 eu ev, tIf 8 ru rv]) (.inl rfl) rfl (hr2 Tryz.results16 (rvt (v := (.pointer _)) rfl) (rvt (v := (.pointer _)) rfl)) [0] [_] rfl (by kernel_rfl) rfl (.inr (.inl ⟨line_note (by omega) hw1 (by assumption), rfl, rfl, rfl⟩))
   ·replace h2 := of_decide_eq_false h2
    refine c_skip <| e_then <| c_seq <| csr <| mvi rfl <| cmp _ rfl rfl rfl <| jt <| c_cond rfl (fun h3 => ?_) (fun h3 => ?_)
    ·replace h3 := of_decide_eq_true h3
     refine csr <| bld [pt (0 : Int), pt (0 : Int), pt (0 : Int)] [(2, pt (2 : Int))] _ uy29 (lay29 _ uy29) z29 rfl rfl rfl <| bxx [pt (0 : Int), pt (0 : Int), pt (2 : Int)] _ rfl rfl fun b43 => ⟨trivial, ?_⟩
     refine agp rfl <| agp rfl <| jt <| c_ret ?_
     exact j_end (own0 := []) (ro0 := [tPow10 9, tDb64 11, tIf 7 eu ev, tIf 8 ru rv]) (.inl rfl) rfl (hr2 Tryz.results16 (rvt (v := (.pointer _)) rfl) (rvt (v := (.pointer _)) rfl)) [1] [0] [_] [_] [] _ rfl rfl (by kernel_rfl) rfl impl_nil (.inr (.inr ⟨b43, 0, 2, by omega, line_many (by omega) hw1 (by assumption) (by omega), rfl, rfl, rfl⟩))
    ·replace h3 := of_decide_eq_false h3
     refine c_skip <| e_then <| csr <| mvs rfl <| cal (kindsOf_ct (word s wa1)) [] [0] [_] rfl rfl rfl (by kernel_rfl) impl_nil rfl ?_; rintro _ _ _ (⟨KN, ok9, hkf, hkk, hkl, hko, rfl, rfl, rfl⟩ | ⟨hkf, rfl, rfl, rfl⟩)
     ·refine ⟨trivial, ?_⟩
      refine mv (.tuple _) rfl <| xtr (.slice _ _ _) rfl rfl <| xtr (.bool _) rfl rfl <| agl rfl <| agb rfl <| jt <| c_seq <| csr <| mvb rfl <| not_ rfl <| mvb rfl <| g_on rfl rfl rfl <| mvs rfl <| g_on rfl rfl rfl <| scmp (a := (word s wa1)) (b := ([98, 101, 103, 105, 110] : Str)) _ rfl rfl uy9 rfl <| g_on rfl rfl rfl <| mvi rfl <| g_on rfl rfl rfl <| cmp _ rfl rfl rfl <| g_on rfl rfl rfl <| eqbo _ rfl rfl uy4 rfl <| pkf (.bool _) rfl rfl <| jt <| c_cond rfl (fun h4 => ?_) (fun h4 => ?_)
      ·refine csr <| mvi rfl <| bld [pt (0 : Int), pt (0 : Int), pt (0 : Int)] [(1, p1 (.int .i64 (wa1 : Int))), (2, pt (160 : Int))] _ uy29 (lay29 _ uy29) z29 rfl rfl rfl <| bxx [pt (0 : Int), p1 (.int .i64 (wa1 : Int)), pt (160 : Int)] _ rfl rfl fun b60 => ⟨trivial, ?_⟩
       refine agp rfl <| agp rfl <| jt <| c_ret ?_
       exact j_end (own0 := []) (ro0 := [tPow10 9, tDb64 11, tIf 7 eu ev, tIf 8 ru rv]) (.inl rfl) rfl (hr2 Tryz.results16 (rvt (v := (.pointer _)) rfl) (rvt (v := (.pointer _)) rfl)) [2] [0, 1] [_] [_, _] [] _ rfl rfl (by kernel_rfl) rfl impl_nil (.inr (.inr ⟨b60, _, 160, by omega, line_place (by omega) hw1 (by assumption) (by omega) hkf (bne_t (by assumption)), rfl, rfl, rfl⟩))
      ·refine c_skip <| e_then <| csr <| mvs rfl <| bld [pt (0 : Int), pt ([] : Str), p1 (.slice none 0 0)] [(1, pt (word s wa1))] _ uy39 (lay39 _ uy39) z39 rfl rfl rfl <| bxx [pt (0 : Int), pt (word s wa1), p1 (.slice none 0 0)] _ rfl rfl fun b63 => ⟨trivial, ?_⟩; refine j_addE ?_
       refine agp rfl <| jt <| c_seq <| csr <| mvl rfl <| lenS rfl uy37 <| mvi rfl <| jt <| c_block <| c_loop (σ := Nat × Nat × List Str × Ow) (fun (i, p, acc, o) => i ≤ KN.length ∧ o.ok acc ∧ p ≤ s.length ∧ acc.length ≤ i ∧ argsR fit16 160 s [] (KN.map kU) (wordsL s (wa1 + wlen s wa1)) = argsR fit16 160 s acc ((KN.drop i).map kU) (wordsL s p)) (fun (i, p, acc, o) => KN.length - i) (fun (i, p, acc, o) => [(66, .int .i64 (i : Int))]) (fun (i, p, acc, o) => [[(b26, .cells (cat [pt s, p1 (.int .i64 ((p : Nat) : Int))]) 63)], ok9.seg KN 9, [(b63, .cells (cat [pt (0 : Int), pt (word s wa1), p1 (.slice o.adr acc.length o.cap)]) 39)], o.seg acc 9]) (fun (i, p, acc, o) => [tPow10 9, tDb64 11, tIf 7 eu ev, tIf 8 ru rv]) [4, 5, 14, 15, 66, 67, 68, 69, 70, 71, 72, 73, 74, 75, 76, 77] (0, (wa1 + wlen s wa1), [], Ow.nil) (⟨Nat.zero_le _, Ow.nil_ok, by omega, Nat.le_refl _, rfl⟩) ⟨rfl, trivial⟩ rfl rfl ?_
       rintro ⟨i, p, acc, o⟩ g1 hI1
       try dsimp only at hI1 ⊢
       have HI2 := hI1.2.2.1
       have HI3 := hI1.2.2.2.1
       have HI4 := hI1.2.2.2.2
       refine csr <| cmp _ rfl rfl rfl <| jt <| c_seq <| c_cond rfl (fun h5 => ?_) (fun h5 => ?_)
       ·replace h5 := of_decide_eq_true h5
        refine c_skip <| e_then <| c_seq <| c_block <| csr <| ixs ((ok9).vs) KN i (Ow.vs_ok hko) rfl rfl rfl uy37 ty9.sz rfl (by first | omega | (simp; done) | (simp; omega) | (simp at *; omega)) <| ldsoG 1 (List.getD KN i []) hko rfl rfl rfl rfl (getD_some (by first | omega | (simp; done) | (simp; omega) | (simp at *; omega))) ty9 <| ags rfl <| jsr <| mvp rfl <| mvs rfl <| mvp rfl <| cal (take_ct b26 b63 s (List.getD KN i []) (word s wa1) p o acc (by omega) (by omega) hI1.2.1 (by omega) (knd_mem hkk (by omega)) eu ev ru rv) [0, 2, 3] [1] [_] rfl rfl rfl (by kernel_rfl) (impl_cons (impl_at 0 rfl) (impl_cons (impl_at 1 rfl) (impl_cons (impl_at 2 rfl) (impl_cons (impl_at 3 rfl) impl_nil)))) rfl ?_; rintro _ _ _ (⟨tx2, tq2, to2, hto2, ⟨htl2, htq2⟩, htk2, rfl, rfl, rfl⟩ | ⟨tf2, ta2, te2, hta2, htb2, rfl, rfl, rfl⟩)
        ·refine ⟨trivial, ?_⟩
         refine agp rfl <| jsr <| mvp rfl <| eqpn false rfl rfl uy40 rfl <| jt <| c_false rfl <| c_skip <| e_in <| e_then <| c_reg <| addi rfl rfl rfl (by omega) <| mvi rfl <| jn <| e_keep [1, 0, 2, 3] [] [_, _, _, _] rfl (by kernel_rfl) ?_
         exact e_loop (i + 1, tq2, acc ++ [tx2], to2) (⟨by omega, hto2, htq2, (by simp; omega), HI4.trans ((by rw [drop_kU (by omega)]; exact htk2 _ (knd_last hkk (by omega))))⟩) (by show KN.length - (i + 1) < KN.length - i; omega) (⟨rfl, trivial⟩) rfl rfl rfl
        ·refine ⟨trivial, ?_⟩
         refine agp rfl <| jsr <| mvp rfl <| eqpn true rfl rfl uy40 rfl <| jt <| c_true rfl <| csr <| mvp rfl <| agp rfl <| agp rfl <| jt <| c_ret ?_
         exact j_end (own0 := []) (ro0 := [tPow10 9, tDb64 11, tIf 7 eu ev, tIf 8 ru rv]) (.inl rfl) rfl (hr2 Tryz.results16 (rvt (v := (.pointer _)) rfl) (rvt (v := (.pointer _)) rfl)) [1] [0] [_] [_] [] _ rfl rfl (by kernel_rfl) rfl impl_nil (.inr (.inr ⟨tf2, _, _, hta2, line_bad (by omega) hw1 (by assumption) (by omega) hkf (bne_f (by assumption)) (HI4.trans (by rw [drop_kU (by omega)]; exact htb2 _)), rfl, rfl, rfl⟩))
       ·replace h5 := of_decide_eq_false h5
        refine c_exit rfl <| e_then <| c_seq <| csr <| mvp rfl <| cal (next_ct b26 s p (by omega) (by omega)) [0] [1, 2, 3] [_, _, _] rfl rfl rfl (by kernel_rfl) impl_nil rfl ?_; rintro _ _ _ (⟨wa3, hw3, hw3p, hw3l, rfl, rfl, rfl⟩ | ⟨wa3, hw3, hw3l, rfl, rfl, rfl⟩)
        ·have hw3w := word_length s wa3; refine ⟨trivial, ?_⟩
         refine mv (.tuple _) rfl <| xtr (.string _) rfl rfl <| xtr (.int _ _) rfl rfl <| xtr (.bool _) rfl rfl <| ags rfl <| agi rfl <| agb rfl <| jsr <| mvb rfl <| jt <| c_true rfl <| csr <| mvi rfl <| bld [pt (0 : Int), pt (0 : Int), pt (0 : Int)] [(1, p1 (.int .i64 (wa3 : Int))), (2, pt (160 : Int))] _ uy29 (lay29 _ uy29) z29 rfl rfl rfl <| bxx [pt (0 : Int), p1 (.int .i64 (wa3 : Int)), pt (160 : Int)] _ rfl rfl fun b87 => ⟨trivial, ?_⟩
         refine agp rfl <| agp rfl <| jt <| c_ret ?_
         exact j_end (own0 := []) (ro0 := [tPow10 9, tDb64 11, tIf 7 eu ev, tIf 8 ru rv]) (.inl rfl) rfl (hr2 Tryz.results16 (rvt (v := (.pointer _)) rfl) (rvt (v := (.pointer _)) rfl)) [4] [0, 1, 2, 3] [_] [_, _, _, _] [] _ rfl rfl (by kernel_rfl) rfl impl_nil (.inr (.inr ⟨b87, _, 160, by omega, line_more (by omega) hw1 (by assumption) (by omega) hkf (bne_f (by assumption)) (HI4.trans (by rw [List.drop_of_length_le (by omega)]; show Sum.inr (acc, wordsL s p) = _; rw [hw3])), rfl, rfl, rfl⟩))
        ·refine ⟨trivial, ?_⟩
         refine mv (.tuple _) rfl <| xtr (.string _) rfl rfl <| xtr (.int _ _) rfl rfl <| xtr (.bool _) rfl rfl <| ags rfl <| agi rfl <| agb rfl <| jsr <| mvb rfl <| jt <| c_false rfl <| c_skip <| e_then <| csr <| mvp rfl <| agp rfl <| agp rfl <| jt <| c_ret ?_
         exact j_end (own0 := []) (ro0 := [tPow10 9, tDb64 11, tIf 7 eu ev, tIf 8 ru rv]) (.inl rfl) rfl (hr2 Tryz.results16 (rvt (v := (.pointer _)) rfl) (rvt (v := (.pointer _)) rfl)) [1, 2] [0, 3] [_, _] [_, _] [] _ rfl rfl (by kernel_rfl) rfl impl_nil (.inl ⟨(word s wa1), acc, o, b63, line_ok (by omega) hw1 (by assumption) (by omega) hkf (bne_f (by assumption)) (HI4.trans (by rw [List.drop_of_length_le (by omega)]; show Sum.inr (acc, wordsL s p) = _; rw [hw3])), hI1.2.1, by omega, by omega, rfl, rfl, rfl⟩)
     ·refine ⟨trivial, ?_⟩
      refine mv (.tuple _) rfl <| xtr (.slice _ _ _) rfl rfl <| xtr (.bool _) rfl rfl <| agl rfl <| agb rfl <| jt <| c_seq <| csr <| mvb rfl <| not_ rfl <| mvb rfl <| g_off rfl rfl rfl rfl <| g_off rfl rfl rfl rfl <| g_off rfl rfl rfl rfl <| g_off rfl rfl rfl rfl <| g_off rfl rfl rfl rfl <| pkt (.bool _) rfl rfl <| jt <| c_true rfl <| csr <| mvi rfl <| bld [pt (0 : Int), pt (0 : Int), pt (0 : Int)] [(1, p1 (.int .i64 (wa1 : Int))), (2, pt (160 : Int))] _ uy29 (lay29 _ uy29) z29 rfl rfl rfl <| bxx [pt (0 : Int), p1 (.int .i64 (wa1 : Int)), pt (160 : Int)] _ rfl rfl fun b60 => ⟨trivial, ?_⟩
      refine agp rfl <| agp rfl <| jt <| c_ret ?_
      exact j_end (own0 := []) (ro0 := [tPow10 9, tDb64 11, tIf 7 eu ev, tIf 8 ru rv]) (.inl rfl) rfl (hr2 Tryz.results16 (rvt (v := (.pointer _)) rfl) (rvt (v := (.pointer _)) rfl)) [1] [0] [_] [_] [] _ rfl rfl (by kernel_rfl) rfl impl_nil (.inr (.inr ⟨b60, _, 160, by omega, line_unknown (by omega) hw1 (by assumption) (by omega) hkf, rfl, rfl, rfl⟩))
  ·refine ⟨trivial, ?_⟩
   refine mv (.tuple _) rfl <| xtr (.string _) rfl rfl <| xtr (.int _ _) rfl rfl <| xtr (.bool _) rfl rfl <| ags rfl <| agi rfl <| agb rfl <| jt <| c_seq <| csr <| mvb rfl <| not_ rfl <| mvb rfl <| g_off rfl rfl rfl rfl <| g_off rfl rfl rfl rfl <| g_off rfl rfl rfl rfl <| pkt (.bool _) rfl rfl <| jt <| c_true rfl <| csr <| agp rfl <| agp rfl <| jt <| c_ret ?_
   exact j_d (own0 := []) (ro0 := [tPow10 9, tDb64 11, tIf 7 eu ev, tIf 8 ru rv]) (.inl rfl) rfl (hr2 Tryz.results16 (rvt (v := (.pointer _)) rfl) (rvt (v := (.pointer _)) rfl)) [0] [_] rfl (by kernel_rfl) rfl (.inr (.inl ⟨line_blank (by omega) hw1, rfl, rfl, rfl⟩))
end Go.Proofs.YtakbbpahfclgnaaGreatDoor
namespace Go.Proofs.YtakbbpahfclgnaaGreatDoor
open Go Go.Proofs Go.PW
open Go.PW.Enc (enc val)
theorem ty39 : Ty Tryz.prog 39 3 true := ⟨by kernel_rfl, by kernel_rfl⟩
theorem by39 : (Tryz.prog.info? 39).map (·.bytes) = some 48 := by kernel_rfl
theorem LParse_ct (s : Str) (hs : s.length ≤ 140737488351232) (eu : TypeId) (ev : Value) (ru : TypeId) (rv : Value) : Ct Tryz.prog 5 [strV s] [] [tPow10 9, tDb64 11, tIf 7 eu ev, tIf 8 ru rv] (fun v w r => (∃ (L : List CmdO) (o' : Ow), scriptR fit16 form16 ([98, 101, 103, 105, 110] : Str) 160 s = .inr (L.map CmdO.cm) ∧ okL L ∧ o'.ok (List.map CmdO.h L) ∧ L.length ≤ 400 ∧ (∀ c ∈ L, c.args.length ≤ 5) ∧ v = .tuple #[.slice o'.adr (List.map CmdO.h L).length o'.cap, .nilIface] ∧ w = [o'.seg (List.map CmdO.h L) 39, argsS 9 L] ∧ r = []) ∨ (∃ (f l a e : Nat), scriptR fit16 form16 ([98, 101, 103, 105, 110] : Str) 160 s = .inl (l, a, e) ∧ v = .tuple #[.slice none 0 0, .iface 40 (.pointer (some ⟨f, 0, none⟩))] ∧ w = [[(f, .cells (cat [pt (l : Int), pt (a : Int), pt (e : Int)]) 29)]] ∧ r = [])) := by
 have HSP := splitL_pos s
 have HSL := split_len s
 have HLI : (linesL s).length ≤ s.length := linesL_len _ s (Nat.le_refl _)
 refine ct_enter Tryz.func5 rfl Tryz.ntmps5 (by kernel_rfl) rfl fun w0 => ?_
 refine csr <| agl rfl <| asg .nilIface rfl <| jt <| c_seq <| csr <| mvs rfl <| lenT (s := s) rfl uy9 <| cmp _ rfl rfl rfl <| jt <| c_cond rfl (fun h1 => ?_) (fun h1 => ?_)
 ·replace h1 := of_decide_eq_true h1
  refine csr <| bld [pt (0 : Int), pt (0 : Int), pt (0 : Int)] [(2, pt (2 : Int))] _ uy29 (lay29 _ uy29) z29 rfl rfl rfl <| bxx [pt (0 : Int), pt (0 : Int), pt (2 : Int)] _ rfl rfl fun b15 => ⟨trivial, ?_⟩
  refine mki (v := (.pointer _)) rfl uy40 rfl <| agl rfl <| asg (.iface _ _) rfl <| jt <| c_ret ?_
  exact j_end (own0 := []) (ro0 := [tPow10 9, tDb64 11, tIf 7 eu ev, tIf 8 ru rv]) (.inl rfl) rfl (hr2 Tryz.results5 (rvt (v := (.slice _ _ _)) rfl) (rvt (v := (.iface _ _)) rfl)) [0] [] [_] [] [] _ rfl rfl (by kernel_rfl) rfl impl_nil (.inr ⟨b15, 0, 0, 2, scriptR_long (by omega), rfl, rfl, rfl⟩)
 ·replace h1 := of_decide_eq_false h1
  refine c_skip <| e_then <| csr <| mvs rfl <| cal (sSplit_ct s (by omega)) [] [] [] rfl rfl rfl (by kernel_rfl) impl_nil rfl ?_; rintro _ _ _ ⟨os1, hos1, rfl, rfl, rfl⟩; refine ⟨trivial, ?_⟩
  refine agl rfl <| jt <| c_cut (σ := Ow) (fun ol => ol.ok (linesL s)) (fun ol => [(4, .slice ol.adr (linesL s).length ol.cap)]) (fun ol => [ol.seg (linesL s) 9]) (fun ol => [tPow10 9, tDb64 11, tIf 7 eu ev, tIf 8 ru rv]) [4, 5, 19, 20, 21, 22, 23, 24, 25, 26, 27, 28, 29] ?_ ?_
  ·refine csr <| mvl rfl <| lenS rfl uy37 <| subi rfl rfl rfl (by omega) <| agi rfl <| jsr <| mvl rfl <| mvi rfl <| ixs ((os1).vs) (splitL s) ((splitL s).length - 1) (Ow.vs_ok hos1) rfl rfl rfl uy37 ty9.sz (by omega) (by omega) <| ldsoG 0 (List.getD (splitL s) ((splitL s).length - 1) []) hos1 rfl rfl rfl rfl (getD_some (by first | omega | (simp; done) | (simp; omega) | (simp at *; omega))) ty9 <| scmp (a := (List.getD (splitL s) ((splitL s).length - 1) [])) (b := ([] : Str)) _ rfl rfl uy9 rfl <| jt <| c_cond rfl (fun h2 => ?_) (fun h2 => ?_)
   ·replace h2 := of_decide_eq_true h2
    refine c_reg <| mvl rfl <| mvi rfl <| sli ((os1).vs) 0 ((splitL s).length - 1) rfl uy37 ty9.sz rfl (⟨_, congrArg (Value.int _) (by omega)⟩) (by omega) (by have := hos1.le; first | omega | (show _ ≤ os1.cap; omega)) (by have := hos1.le; first | omega | (show _ ≤ os1.cap; omega)) <| agl rfl <| jn ?_
    have HLS : linesL s = List.take ((splitL s).length - 1) (splitL s) := by rw [split_lines s.length s (Nat.le_refl _), if_pos (by assumption)]
    exact e_lp (Ow.cut os1 (splitL s) ((splitL s).length - 1)) (by repeat (first | exact out_self | refine out_hav (by kernel_rfl) ?_ | refine out_look (by kernel_rfl) ?_)) (by rw [HLS]; exact Ow.cut_ok hos1 ((splitL s).length - 1) (by omega)) trivial (⟨(by show Value.slice _ _ _ = Value.slice _ _ _; rw [(sub0 os1 1).1, (sub0 os1 1).2, HLS, List.length_take, Nat.min_eq_left (by omega)]; rfl), trivial⟩) rfl (by rw [HLS, ← Ow.cut_seg]; rfl) rfl
   ·replace h2 := of_decide_eq_false h2
    refine c_skip ?_
    have HLS : linesL s = splitL s := by rw [split_lines s.length s (Nat.le_refl _), if_neg (by assumption)]
    exact e_lp os1 (by repeat (first | exact out_self | refine out_hav (by kernel_rfl) ?_ | refine out_look (by kernel_rfl) ?_)) (by rw [HLS]; exact hos1) trivial (⟨(by rw [HLS]; rfl), trivial⟩) rfl (by rw [HLS]; rfl) rfl
  ·rintro ol g hC1
   try dsimp only at hC1 ⊢
   refine csr <| agl rfl <| jt <| c_seq <| csr <| mvl rfl <| lenS rfl uy37 <| mvi rfl <| jt <| c_block <| c_addE <| c_addE <| c_loop (σ := Nat × List CmdO × Ow) (fun (i, L, o) => i ≤ (linesL s).length ∧ okL L ∧ o.ok (List.map CmdO.h L) ∧ L.length ≤ 400 ∧ (∀ c ∈ L, c.args.length ≤ 5) ∧ scriptL fit16 form16 ([98, 101, 103, 105, 110] : Str) 160 (linesL s) 0 [] = scriptL fit16 form16 ([98, 101, 103, 105, 110] : Str) 160 (List.drop i (linesL s)) i (List.map CmdO.cm L)) (fun (i, L, o) => (linesL s).length - i) (fun (i, L, o) => [(32, .int .i64 (i : Int)), (6, .slice o.adr (List.map CmdO.h L).length o.cap)]) (fun (i, L, o) => [ol.seg (linesL s) 9, o.seg (List.map CmdO.h L) 39, argsS 9 L]) (fun (i, L, o) => [tPow10 9, tDb64 11, tIf 7 eu ev, tIf 8 ru rv]) [2, 3, 6, 7, 8, 9, 10, 32, 33, 34, 35, 36, 37, 38, 39, 40, 41, 42, 43, 44, 45, 46, 47, 48, 49, 50, 51, 52, 53, 54, 55, 56, 57, 58, 59, 60, 61, 62, 63, 64, 65, 66] (0, [], Ow.nil) (⟨Nat.zero_le _, (fun c hc => by cases hc), Ow.nil_ok, Nat.zero_le _, (fun c hc => by cases hc), rfl⟩) ⟨rfl, rfl, trivial⟩ rfl rfl ?_
   rintro ⟨i, L, o⟩ g1 hI1
   try dsimp only at hI1 ⊢
   have HL4 := hI1.2.2.2.1
   have HSC := hI1.2.2.2.2.2
   refine csr <| cmp _ rfl rfl rfl <| jt <| c_seq <| c_cond rfl (fun h3 => ?_) (fun h3 => ?_)
   ·replace h3 := of_decide_eq_true h3
    refine c_skip <| e_then <| c_seq <| c_block <| csr <| mvi rfl <| ixs ((ol).vs) (linesL s) i (Ow.vs_ok hC1) rfl rfl rfl uy37 ty9.sz rfl (by first | omega | (simp; done) | (simp; omega) | (simp at *; omega)) <| ldsoG 0 (List.getD (linesL s) i []) hC1 rfl rfl rfl rfl (getD_some (by first | omega | (simp; done) | (simp; omega) | (simp at *; omega))) ty9 <| agi rfl <| ags rfl <| jt <| c_seq ?_
    have HGL := getD_line (s := s) (i := i) (by omega)
    refine c_reg <| mvs rfl <| mvl rfl <| lenS rfl uy22 <| j_re 40 (.int .i64 (L.length : Int)) (congrArg (fun n : Nat => Value.int .i64 (n : Int)) (List.length_map ..)) <| cal (parseLine_ct (List.getD (linesL s) i []) L.length (by omega) (by omega) eu ev ru rv) [] [0, 1, 2] [_, _, _] rfl rfl rfl (by kernel_rfl) (impl_cons (impl_at 0 rfl) (impl_cons (impl_at 1 rfl) (impl_cons (impl_at 2 rfl) (impl_cons (impl_at 3 rfl) impl_nil)))) rfl ?_; rintro _ _ _ (⟨pwd2, pacc2, po2, pc2, hlc2, hlo2, hla2, hlw2, rfl, rfl, rfl⟩ | ⟨hln2, rfl, rfl, rfl⟩ | ⟨pf2, pa2, pe2, hpa2, hlf2, rfl, rfl, rfl⟩)
    ·have hln2 := line_lt hlc2; refine ⟨trivial, ?_⟩
     refine mv (.tuple _) rfl <| xtr (.pointer _) rfl rfl <| xtr (.pointer _) rfl rfl <| agp rfl <| agp rfl <| jt <| c_seq <| csr <| mvp rfl <| eqpn false rfl rfl uy40 rfl <| jt <| c_false rfl <| c_skip <| e_then <| csr <| mvp rfl <| eqpn true rfl rfl uy42 rfl <| jt <| c_true rfl <| csr <| mvp rfl <| mvi rfl <| addi rfl rfl rfl (by omega) <| nlc rfl <| fad rfl uy39 rfl ty3.sz <| stp 3 0 _ (p1 (.int .i64 ((i : Int) + 1))) rfl rfl rfl rfl rfl rfl ty3 ⟨trivial, ?_⟩
     refine jr <| mvl rfl <| mvp rfl <| nlc rfl <| ldw 3 _ rfl rfl ty39 <| bsl (α := CmdH) ([CmdO.h ⟨i + 1, pwd2, pacc2, po2⟩]) uy22 ty39.sz rfl (by decide) z39 rfl fun b64 => ⟨trivial, ?_⟩
     refine app 1 o (List.map CmdO.h L) ([CmdO.h ⟨i + 1, pwd2, pacc2, po2⟩] : List CmdH) hI1.2.2.1 rfl ⟨rfl, rfl, rfl⟩ rfl rfl (gives_own (ys := ([CmdO.h ⟨i + 1, pwd2, pacc2, po2⟩] : List CmdH)) (pre := []) (post := []) 5 rfl (by simp) rfl) uy22 uy22 (.inl ⟨_, rfl⟩) ty39.sz by39 z39 rfl (by simp; omega) rfl fun o65_3 hk65_3 => ⟨trivial, ?_⟩
     refine agl rfl <| jn <| e_in <| e_then <| c_keep [0, 1, 2, 4] [3, 5] [_, _, _, _] rfl (by kernel_rfl) <| c_part (own' := [ol.seg (linesL s) 9, o65_3.seg ((List.map CmdO.h L) ++ ([CmdO.h ⟨i + 1, pwd2, pacc2, po2⟩] : List CmdH)) 39, argsS 9 (L ++ [⟨i + 1, pwd2, pacc2, po2⟩])]) (List.Perm.of_eq (by rw [argsS_app]; simp)) <| c_reg <| addi rfl rfl rfl (by omega) <| mvi rfl <| jn ?_
     exact e_lp (i + 1, L ++ [⟨i + 1, pwd2, pacc2, po2⟩], o65_3) (by repeat (first | exact out_self | refine out_hav (by kernel_rfl) ?_ | refine out_look (by kernel_rfl) ?_)) (⟨by omega, okL_app hI1.2.1 hlo2, (by rw [List.map_append]; exact hk65_3), (by simp; omega), (fun c hc => by rcases List.mem_append.1 hc with hc | hc; exact hI1.2.2.2.2.1 c hc; rw [List.mem_singleton] at hc; subst hc; exact hla2), HSC.trans ((script_cmd (by omega) (by rw [List.length_map]; exact hlc2)).trans (by rw [List.map_append]; rfl))⟩) (by show (linesL s).length - (i + 1) < (linesL s).length - i; omega) (⟨rfl, (by rw [List.map_append]; rfl), trivial⟩) rfl (by rw [List.map_append]; rfl) rfl
    ·refine ⟨trivial, ?_⟩
     refine mv (.tuple _) rfl <| xtr (.pointer _) rfl rfl <| xtr (.pointer _) rfl rfl <| agp rfl <| agp rfl <| jt <| c_seq <| csr <| mvp rfl <| eqpn false rfl rfl uy40 rfl <| jt <| c_false rfl <| c_skip <| e_then <| csr <| mvp rfl <| eqpn false rfl rfl uy42 rfl <| jt <| c_false rfl <| c_skip <| e_in <| e_then <| c_reg <| addi rfl rfl rfl (by omega) <| mvi rfl <| jn ?_
     exact e_lp (i + 1, L, o) (by repeat (first | exact out_self | refine out_hav (by kernel_rfl) ?_ | refine out_look (by kernel_rfl) ?_)) (⟨by omega, hI1.2.1, hI1.2.2.1, hI1.2.2.2.1, hI1.2.2.2.2.1, HSC.trans (script_none (by omega) (by rw [List.length_map]; exact hln2))⟩) (by show (linesL s).length - (i + 1) < (linesL s).length - i; omega) (⟨rfl, rfl, trivial⟩) rfl rfl rfl
    ·refine ⟨trivial, ?_⟩
     refine mv (.tuple _) rfl <| xtr (.pointer _) rfl rfl <| xtr (.pointer _) rfl rfl <| agp rfl <| agp rfl <| jt <| c_seq <| csr <| mvp rfl <| eqpn true rfl rfl uy40 rfl <| jt <| c_true rfl <| csr <| mvp rfl <| mvi rfl <| addi rfl rfl rfl (by omega) <| nlc rfl <| fad rfl uy29 rfl ty3.sz <| stp 3 0 _ (p1 (.int .i64 ((i : Int) + 1))) rfl rfl rfl rfl rfl rfl ty3 ⟨trivial, ?_⟩
     refine jsr <| mvp rfl <| mki (v := (.pointer _)) rfl uy40 rfl <| agl rfl <| asg (.iface _ _) rfl <| jt <| c_ret ?_
     exact j_end (own0 := []) (ro0 := [tPow10 9, tDb64 11, tIf 7 eu ev, tIf 8 ru rv]) (.inl rfl) rfl (hr2 Tryz.results5 (rvt (v := (.slice _ _ _)) rfl) (rvt (v := (.iface _ _)) rfl)) [3] [0, 1, 2] [_] [_, _, _] [] _ rfl rfl (by kernel_rfl) rfl impl_nil (.inr ⟨pf2, i + 1, _, _, (scriptR_in (by omega)).trans (HSC.trans (script_bad (by omega) (by rw [List.length_map]; exact hlf2))), rfl, rfl, rfl⟩)
   ·replace h3 := of_decide_eq_false h3
    refine c_exit rfl <| e_then <| csr <| mvl rfl <| agl rfl <| asg .nilIface rfl <| jt <| c_ret ?_
    exact j_end (own0 := []) (ro0 := [tPow10 9, tDb64 11, tIf 7 eu ev, tIf 8 ru rv]) (.inl rfl) rfl (hr2 Tryz.results5 (rvt (v := (.slice _ _ _)) rfl) (rvt (v := .nilIface) rfl)) [1, 2] [0] [_, _] [_] [] _ rfl rfl (by kernel_rfl) rfl impl_nil (.inl ⟨L, o, (scriptR_in (by omega)).trans (HSC.trans (script_end (by omega))), hI1.2.1, hI1.2.2.1, HL4, hI1.2.2.2.2.1, rfl, rfl, rfl⟩)
end Go.Proofs.YtakbbpahfclgnaaGreatDoor
namespace Go.Proofs.YtakbbpahfclgnaaGreatDoor
open Go Go.Proofs Go.PW
open Go.PW.Enc (enc val)
def dgI (c : UInt8) : Int := if hexv c < 16 then (hexv c : Int) else -1
theorem dgI_d {c : UInt8} (h1 : 48 ≤ c.toNat) (h2 : c.toNat ≤ 57) : ((c - 48).toNat : Int) = dgI c := by
  have hv : hexv c = c.toNat - 48 := by unfold hexv; rw [if_pos ⟨h1, h2⟩]
  rw [u8_sub (d := 48) h1]; unfold dgI; rw [hv, if_pos (by omega)]; rfl
theorem dgI_l {c : UInt8} (h1 : 97 ≤ c.toNat) (h2 : c.toNat ≤ 102) : ((c - 97).toNat : Int) + 10 = dgI c := by
  have hv : hexv c = c.toNat - 87 := by unfold hexv; rw [if_neg (by omega), if_pos ⟨h1, h2⟩]
  rw [u8_sub (d := 97) h1]; unfold dgI; rw [hv, if_pos (by omega)]
  have : (97 : UInt8).toNat = 97 := rfl
  omega
theorem dgI_o {c : UInt8} (h1 : ¬(48 ≤ c.toNat ∧ c.toNat ≤ 57)) (h2 : ¬(97 ≤ c.toNat ∧ c.toNat ≤ 102)) : (-1 : Int) = dgI c := by
  have hv : hexv c = 16 := by unfold hexv; rw [if_neg h1, if_neg h2]
  unfold dgI; rw [hv, if_neg (by omega)]
theorem dgI_neg {c : UInt8} (h : dgI c < 0) : ¬ hexv c < 16 := by unfold dgI at h; split at h <;> omega
theorem dgI_pos {c : UInt8} (h : ¬ dgI c < 0) : hexv c < 16 ∧ dgI c = (hexv c : Int) := by unfold dgI at h ⊢; split at h <;> simp_all <;> omega
def moreB (m : Str) (c : UInt8) : Bool := lowB c || m.contains c
def allB (w : Str) (n : Int) (m : Str) : Bool := w.all (moreB m) && (decide ((1 : Int) ≤ (w.length : Int)) && decide ((w.length : Int) ≤ n))
theorem seed_more : ∀ c : UInt8, moreB [48, 49, 50, 51, 52, 53, 54, 55, 56, 57, 45] c = seedB c := by
  have h : ∀ x : Fin 256, moreB [48, 49, 50, 51, 52, 53, 54, 55, 56, 57, 45] (UInt8.ofNat x.val) = seedB (UInt8.ofNat x.val) := by decide +kernel
  intro c
  have := h ⟨c.toNat, c.toNat_lt⟩
  simpa using this
theorem low_more (c : UInt8) : moreB [] c = lowB c := by simp [moreB]
theorem all_seed {w : Str} (h : 0 < w.length) : allB w 64 [48, 49, 50, 51, 52, 53, 54, 55, 56, 57, 45] = fit16 100 w := by
  unfold allB
  rw [show moreB [48, 49, 50, 51, 52, 53, 54, 55, 56, 57, 45] = seedB from funext seed_more, decide_eq_true (show (1 : Int) ≤ (w.length : Int) by omega), Bool.true_and, Bool.and_comm]; rfl
theorem all_low {w : Str} (h : 0 < w.length) : allB w 16 [] = fit16 119 w := by
  unfold allB
  rw [show moreB [] = lowB from funext low_more, decide_eq_true (show (1 : Int) ≤ (w.length : Int) by omega), Bool.true_and, Bool.and_comm]; rfl
theorem more_step {m : Str} {c : UInt8} {k : Nat} (hk : k < m.length) : (lowB c || (m.take (k + 1)).contains c) = ((lowB c || (m.take k).contains c) || decide (c = List.getD m k 0)) := by
  rw [take_suc hk, Bool.or_assoc]
  congr 1
  rw [Bool.eq_iff_iff]; simp [List.elem_eq_contains]
theorem hex_fit {w : Str} (h45 : ¬ w = [45]) : fit16 104 w = (decide (w.length % 2 = 0) && w.all hxB) := by
  show (decide (w = [45]) || (decide (w.length % 2 = 0) && w.all hxB)) = _
  rw [decide_eq_false h45]; rfl
theorem hex_no {w : Str} (h45 : ¬ w = [45]) {i : Nat} (hi : i < w.length) (h : ¬ hexv (List.getD w i 0) < 16) : fit16 104 w = false := by
  rw [hex_fit h45, all_no hi (by rw [hx_hexv]; exact decide_eq_false h), Bool.and_false]
theorem hex_yes {w : Str} (h45 : ¬ w = [45]) (h2 : w.length % 2 = 0) (h : ∀ j, j < w.length → hexv (List.getD w j 0) < 16) : fit16 104 w = true := by
  rw [hex_fit h45, decide_eq_true h2, all_yes (fun j hj => by rw [hx_hexv]; exact decide_eq_true (h j hj))]; rfl
theorem hex_odd {w : Str} (h45 : ¬ w = [45]) (h2 : ¬ w.length % 2 = 0) : fit16 104 w = false := by rw [hex_fit h45, decide_eq_false h2]; rfl
theorem numV_dash {w : Str} (h : w.length < 1 ∨ 9 < w.length ∨ (1 < w.length ∧ List.getD w 0 0 = 48)) : (-1 : Int) = numV w := (numV_bad fun hh => by
  have h9 := isNum_len hh.2
  have hn := hh.2
  unfold isNum at hn
  simp only [Bool.and_eq_true, Bool.or_eq_true, decide_eq_true_eq, Bool.not_eq_true', decide_eq_false_iff_not] at hn
  rcases h with h | h | h
  · omega
  · omega
  · rcases hn.2 with h1 | h1
    · exact h1 h.2
    · rw [h1] at h; simp at h).symm
theorem numV_chr {w : Str} {i : Nat} (hi : i < w.length) (h : (List.getD w i 0).toNat < 48 ∨ 57 < (List.getD w i 0).toNat) : (-1 : Int) = numV w := (numV_bad fun hh => by
  have := dig_bd (all_at (isNum_dig hh.2) hi); omega).symm
theorem numV_done {w : Str} (h0 : 0 < w.length) (h9 : w.length ≤ 9) (hz : ¬(1 < w.length ∧ List.getD w 0 0 = 48)) (hd : w.all digB = true) : numV w = (valN 10 w : Int) := numV_ok h0 (by
  unfold isNum
  rw [hd, decide_eq_true (show (w.length : Int) ≤ 9 by omega)]
  by_cases hc : List.getD w 0 0 = 48
  · rw [decide_eq_true (one_48 (by have : ¬ 1 < w.length := fun h => hz ⟨h, hc⟩; omega) hc)]; simp
  · rw [decide_eq_false hc]; rfl)
theorem dig_of {c : UInt8} (h1 : 48 ≤ c.toNat) (h2 : c.toNat ≤ 57) : digB c = true := by simp only [digB, Bool.and_eq_true, decide_eq_true_eq]; omega
theorem Digit_ct (c : UInt8) : Ct Tryz.prog 97 [.int .u8 (c.toNat : Int)] [] [] (fun v o r => v = .int .i64 (dgI c) ∧ o = [] ∧ r = []) := by
 refine ct_enter Tryz.func97 rfl Tryz.ntmps97 (by kernel_rfl) rfl fun w0 => ?_
 refine csr <| agi rfl <| jt <| c_seq <| c_block <| csr <| mvi rfl <| cmp _ rfl rfl rfl <| mvb rfl <| jsplit 6 rfl (fun h1 => ?_) (fun h1 => ?_)
 ·replace h1 := of_decide_eq_true h1
  refine g_on rfl rfl rfl <| mvi rfl <| g_on rfl rfl rfl <| cmp _ rfl rfl rfl <| pkt (.bool _) rfl rfl <| agb rfl <| jt <| c_cond rfl (fun h2 => ?_) (fun h2 => ?_)
  ·replace h2 := of_decide_eq_true h2
   refine csr <| mvi rfl <| subU8 (a := c) (b := (48 : UInt8)) rfl rfl <| cvI ((c - (48 : UInt8)).toNat : Int) rfl uy5 uy3 (wI64 (by have := UInt8.toNat_lt (c - (48 : UInt8)); omega)) <| agi rfl <| jt <| c_ret ?_
   exact j_z (own0 := []) (ro0 := []) (.inl rfl) rfl (hr1 Tryz.results97 (rvt (v := (.int _ _)) rfl)) rfl (⟨congrArg (Value.int _) (dgI_d (by omega) (by omega)), rfl, rfl⟩)
  ·replace h2 := of_decide_eq_false h2
   refine csr <| mvi rfl <| cmp _ rfl rfl rfl <| mvb rfl <| jsplit 16 rfl (fun h3 => ?_) (fun h3 => ?_)
   ·replace h3 := of_decide_eq_true h3
    refine g_on rfl rfl rfl <| mvi rfl <| g_on rfl rfl rfl <| cmp _ rfl rfl rfl <| pkt (.bool _) rfl rfl <| agb rfl <| jt <| c_cond rfl (fun h4 => ?_) (fun h4 => ?_)
    ·replace h4 := of_decide_eq_true h4
     refine c_seq ?_
     have HSU : (c - 97).toNat = c.toNat - 97 := u8_sub (d := 97) (by show 97 ≤ _; omega)
     refine c_reg <| mvi rfl <| subU8 (a := c) (b := (97 : UInt8)) rfl rfl <| cvI ((c - (97 : UInt8)).toNat : Int) rfl uy5 uy3 (wI64 (by have := UInt8.toNat_lt (c - (97 : UInt8)); omega)) <| addi rfl rfl rfl (by omega) <| agi rfl <| jt <| c_ret ?_
     exact j_z (own0 := []) (ro0 := []) (.inl rfl) rfl (hr1 Tryz.results97 (rvt (v := (.int _ _)) rfl)) rfl (⟨congrArg (Value.int _) (dgI_l (by omega) (by omega)), rfl, rfl⟩)
    ·replace h4 := of_decide_eq_false h4
     refine c_skip <| e_in <| e_then <| csr <| agi rfl <| jt <| c_ret ?_
     exact j_z (own0 := []) (ro0 := []) (.inl rfl) rfl (hr1 Tryz.results97 (rvt (v := (.int _ _)) rfl)) rfl (⟨congrArg (Value.int _) (dgI_o (by omega) (by omega)), rfl, rfl⟩)
   ·replace h3 := of_decide_eq_false h3
    refine g_off rfl rfl rfl rfl <| g_off rfl rfl rfl rfl <| pkf (.bool _) rfl rfl <| agb rfl <| jt <| c_false rfl <| c_skip <| e_in <| e_then <| csr <| agi rfl <| jt <| c_ret ?_
    exact j_z (own0 := []) (ro0 := []) (.inl rfl) rfl (hr1 Tryz.results97 (rvt (v := (.int _ _)) rfl)) rfl (⟨congrArg (Value.int _) (dgI_o (by omega) (by omega)), rfl, rfl⟩)
 ·replace h1 := of_decide_eq_false h1
  refine g_off rfl rfl rfl rfl <| g_off rfl rfl rfl rfl <| pkf (.bool _) rfl rfl <| agb rfl <| jt <| c_false rfl <| csr <| mvi rfl <| cmp _ rfl rfl rfl <| mvb rfl <| jsplit 16 rfl (fun h5 => ?_) (fun h5 => ?_)
  ·replace h5 := of_decide_eq_true h5
   refine g_on rfl rfl rfl <| mvi rfl <| g_on rfl rfl rfl <| cmp _ rfl rfl rfl <| pkt (.bool _) rfl rfl <| agb rfl <| jt <| c_cond rfl (fun h6 => ?_) (fun h6 => ?_)
   ·replace h6 := of_decide_eq_true h6
    refine c_seq ?_
    have HSU : (c - 97).toNat = c.toNat - 97 := u8_sub (d := 97) (by show 97 ≤ _; omega)
    refine c_reg <| mvi rfl <| subU8 (a := c) (b := (97 : UInt8)) rfl rfl <| cvI ((c - (97 : UInt8)).toNat : Int) rfl uy5 uy3 (wI64 (by have := UInt8.toNat_lt (c - (97 : UInt8)); omega)) <| addi rfl rfl rfl (by omega) <| agi rfl <| jt <| c_ret ?_
    exact j_z (own0 := []) (ro0 := []) (.inl rfl) rfl (hr1 Tryz.results97 (rvt (v := (.int _ _)) rfl)) rfl (⟨congrArg (Value.int _) (dgI_l (by omega) (by omega)), rfl, rfl⟩)
   ·replace h6 := of_decide_eq_false h6
    refine c_skip <| e_in <| e_then <| csr <| agi rfl <| jt <| c_ret ?_
    exact j_z (own0 := []) (ro0 := []) (.inl rfl) rfl (hr1 Tryz.results97 (rvt (v := (.int _ _)) rfl)) rfl (⟨congrArg (Value.int _) (dgI_o (by omega) (by omega)), rfl, rfl⟩)
  ·replace h5 := of_decide_eq_false h5
   refine g_off rfl rfl rfl rfl <| g_off rfl rfl rfl rfl <| pkf (.bool _) rfl rfl <| agb rfl <| jt <| c_false rfl <| c_skip <| e_in <| e_then <| csr <| agi rfl <| jt <| c_ret ?_
   exact j_z (own0 := []) (ro0 := []) (.inl rfl) rfl (hr1 Tryz.results97 (rvt (v := (.int _ _)) rfl)) rfl (⟨congrArg (Value.int _) (dgI_o (by omega) (by omega)), rfl, rfl⟩)
theorem Number_ct (w : Str) (hw : w.length ≤ 140737488351232) : Ct Tryz.prog 59 [strV w] [] [] (fun v o r => v = .int .i64 (numV w) ∧ o = [] ∧ r = []) := by
 refine ct_enter Tryz.func59 rfl Tryz.ntmps59 (by kernel_rfl) rfl fun w0 => ?_
 refine csr <| agi rfl <| jt <| c_seq <| csr <| mvs rfl <| lenT (s := w) rfl uy9 <| cmp _ rfl rfl rfl <| mvb rfl <| jsplit 8 rfl (fun h1 => ?_) (fun h1 => ?_)
 ·replace h1 := of_decide_eq_true h1
  refine g_off rfl rfl rfl rfl <| g_off rfl rfl rfl rfl <| g_off rfl rfl rfl rfl <| pkt (.bool _) rfl rfl <| mvb rfl <| g_off rfl rfl rfl rfl <| g_off rfl rfl rfl rfl <| g_off rfl rfl rfl rfl <| g_off rfl rfl rfl rfl <| g_und rfl rfl rfl <| g_und rfl rfl rfl <| g_und rfl rfl rfl <| g_off rfl rfl rfl rfl <| pkt (.bool _) rfl rfl <| jt <| c_true rfl <| csr <| agi rfl <| jt <| c_ret ?_
  exact j_z (own0 := []) (ro0 := []) (.inl rfl) rfl (hr1 Tryz.results59 (rvt (v := (.int _ _)) rfl)) rfl (⟨congrArg (Value.int _) (numV_dash (by first | (left; omega) | (right; left; omega) | exact .inr (.inr ⟨by omega, by assumption⟩))), rfl, rfl⟩)
 ·replace h1 := of_decide_eq_false h1
  refine g_on rfl rfl rfl <| mvs rfl <| g_on rfl rfl rfl <| lenT (s := w) rfl uy9 <| g_on rfl rfl rfl <| cmp _ rfl rfl rfl <| pkf (.bool _) rfl rfl <| mvb rfl <| jsplit 13 rfl (fun h2 => ?_) (fun h2 => ?_)
  ·replace h2 := of_decide_eq_true h2
   refine g_off rfl rfl rfl rfl <| g_off rfl rfl rfl rfl <| g_off rfl rfl rfl rfl <| g_off rfl rfl rfl rfl <| g_und rfl rfl rfl <| g_und rfl rfl rfl <| g_und rfl rfl rfl <| g_off rfl rfl rfl rfl <| pkt (.bool _) rfl rfl <| jt <| c_true rfl <| csr <| agi rfl <| jt <| c_ret ?_
   exact j_z (own0 := []) (ro0 := []) (.inl rfl) rfl (hr1 Tryz.results59 (rvt (v := (.int _ _)) rfl)) rfl (⟨congrArg (Value.int _) (numV_dash (by first | (left; omega) | (right; left; omega) | exact .inr (.inr ⟨by omega, by assumption⟩))), rfl, rfl⟩)
  ·replace h2 := of_decide_eq_false h2
   refine g_on rfl rfl rfl <| mvs rfl <| g_on rfl rfl rfl <| lenT (s := w) rfl uy9 <| g_on rfl rfl rfl <| cmp _ rfl rfl rfl <| g_on rfl rfl rfl <| mvb rfl <| jsplit 17 rfl (fun h3 => ?_) (fun h3 => ?_)
   ·replace h3 := of_decide_eq_true h3
    refine g_on rfl rfl rfl <| mvs rfl <| g_on rfl rfl rfl <| idxT (s := w) 0 rfl rfl uy9 rfl (by first | omega | (simp; done) | (simp; omega) | (simp at *; omega)) <| g_on rfl rfl rfl <| equ8 (a := (List.getD w 0 0)) (b := (48 : UInt8)) _ rfl rfl rfl <| g_on rfl rfl rfl <| pkt (.bool _) rfl rfl <| pkf (.bool _) rfl rfl <| jt <| c_cond rfl (fun h4 => ?_) (fun h4 => ?_)
    ·replace h4 := of_decide_eq_true h4
     refine csr <| agi rfl <| jt <| c_ret ?_
     exact j_z (own0 := []) (ro0 := []) (.inl rfl) rfl (hr1 Tryz.results59 (rvt (v := (.int _ _)) rfl)) rfl (⟨congrArg (Value.int _) (numV_dash (by first | (left; omega) | (right; left; omega) | exact .inr (.inr ⟨by omega, by assumption⟩))), rfl, rfl⟩)
    ·replace h4 := of_decide_eq_false h4
     refine c_skip <| e_then <| csr <| agi rfl <| jt <| c_seq <| csr <| agi rfl <| jt <| c_block <| c_loop (σ := Nat × Nat) (fun (i, n) => i ≤ w.length ∧ n = valN 10 (w.take i) ∧ ∀ j, j < i → digB (List.getD w j 0) = true) (fun (i, n) => w.length - i) (fun (i, n) => [(4, .int .i64 (i : Int)), (3, .int .i64 (n : Int))]) (fun (i, n) => []) (fun (i, n) => []) [2, 3, 4, 23, 24, 25, 26, 27, 28, 29, 30, 31, 32, 33, 34, 35, 36, 37, 38, 39, 40, 41, 42, 43, 44, 45, 46] (0, 0) (⟨by omega, by simp [valN], fun j hj => by omega⟩) ⟨rfl, rfl, trivial⟩ rfl rfl ?_
     rintro ⟨i, n⟩ g1 hI1
     try dsimp only at hI1 ⊢
     have HTD : (w.take i).all digB = true := all_yes (fun j hj => by rw [List.length_take] at hj; rw [show List.getD (w.take i) j 0 = List.getD w j 0 by simp [List.getD, List.getElem?_take, show j < i by omega]]; exact hI1.2.2 j (by omega))
     have HTL : (w.take i).length = i := by rw [List.length_take]; omega
     have HV := val_9 HTD (by omega) (Nat.le_refl _)
     rw [List.take_length] at HV
     have HN := hI1.2.1
     refine c_seq <| csr <| mvi rfl <| mvs rfl <| lenT (s := w) rfl uy9 <| cmp _ rfl rfl rfl <| jt <| c_cond rfl (fun h5 => ?_) (fun h5 => ?_)
     ·replace h5 := of_decide_eq_true h5
      refine c_skip <| e_then <| c_seq <| c_block <| c_seq <| csr <| mvs rfl <| mvi rfl <| idxT (s := w) i rfl rfl uy9 rfl (by first | omega | (simp; done) | (simp; omega) | (simp at *; omega)) <| cmp _ rfl rfl rfl <| mvb rfl <| jsplit 33 rfl (fun h6 => ?_) (fun h6 => ?_)
      ·replace h6 := of_decide_eq_true h6
       refine g_off rfl rfl rfl rfl <| g_off rfl rfl rfl rfl <| g_off rfl rfl rfl rfl <| g_off rfl rfl rfl rfl <| pkt (.bool _) rfl rfl <| jt <| c_true rfl <| csr <| agi rfl <| jt <| c_ret ?_
       exact j_z (own0 := []) (ro0 := []) (.inl rfl) rfl (hr1 Tryz.results59 (rvt (v := (.int _ _)) rfl)) rfl (⟨congrArg (Value.int _) (numV_chr (i := i) (by omega) (by omega)), rfl, rfl⟩)
      ·replace h6 := of_decide_eq_false h6
       refine g_on rfl rfl rfl <| mvs rfl <| g_on rfl rfl rfl <| mvi rfl <| g_on rfl rfl rfl <| idxT (s := w) i rfl rfl uy9 rfl (by first | omega | (simp; done) | (simp; omega) | (simp at *; omega)) <| g_on rfl rfl rfl <| cmp _ rfl rfl rfl <| pkf (.bool _) rfl rfl <| jt <| c_cond rfl (fun h7 => ?_) (fun h7 => ?_)
       ·replace h7 := of_decide_eq_true h7
        refine csr <| agi rfl <| jt <| c_ret ?_
        exact j_z (own0 := []) (ro0 := []) (.inl rfl) rfl (hr1 Tryz.results59 (rvt (v := (.int _ _)) rfl)) rfl (⟨congrArg (Value.int _) (numV_chr (i := i) (by omega) (by omega)), rfl, rfl⟩)
       ·replace h7 := of_decide_eq_false h7
        refine c_skip <| e_then ?_
        have HSU : ((List.getD w i 0) - 48).toNat = (List.getD w i 0).toNat - 48 := u8_sub (d := 48) (by show 48 ≤ _; omega)
        refine c_reg <| mvi rfl <| muli rfl rfl rfl (by omega) <| mvs rfl <| mvi rfl <| idxT (s := w) i rfl rfl uy9 rfl (by first | omega | (simp; done) | (simp; omega) | (simp at *; omega)) <| subU8 (a := (List.getD w i 0)) (b := (48 : UInt8)) rfl rfl <| cvI (((List.getD w i 0) - (48 : UInt8)).toNat : Int) rfl uy5 uy3 (wI64 (by have := UInt8.toNat_lt ((List.getD w i 0) - (48 : UInt8)); omega)) <| addi rfl rfl rfl (by omega) <| agi rfl <| jn <| e_in <| e_then <| c_reg <| mvi rfl <| addi rfl rfl rfl (by omega) <| agi rfl <| jn ?_
        exact e_loop (i + 1, n * 10 + ((List.getD w i 0) - 48).toNat) (⟨by omega, by rw [take_suc (by omega), valN_app, ← HN, HSU]; unfold dgv; rw [if_pos (by omega)], fun j hj => by rcases Nat.lt_or_ge j i with h | h; exact hI1.2.2 j h; rw [show j = i by omega]; exact dig_of (by omega) (by omega)⟩) (by show w.length - (i + 1) < w.length - i; omega) (⟨rfl, congrArg (Value.int _) (by omega), trivial⟩) rfl rfl rfl
     ·replace h5 := of_decide_eq_false h5
      refine c_exit rfl <| e_then <| csr <| mvi rfl <| agi rfl <| jt <| c_ret ?_
      exact j_z (own0 := []) (ro0 := []) (.inl rfl) rfl (hr1 Tryz.results59 (rvt (v := (.int _ _)) rfl)) rfl (⟨congrArg (Value.int _) (by rw [numV_done (by omega) (by omega) (fun hh => by first | omega | exact absurd hh.2 (by assumption)) (all_yes (fun j hj => hI1.2.2 j (by omega))), HN, show i = w.length by omega, List.take_length]), rfl, rfl⟩)
   ·replace h3 := of_decide_eq_false h3
    refine g_off rfl rfl rfl rfl <| g_off rfl rfl rfl rfl <| g_off rfl rfl rfl rfl <| g_on rfl rfl rfl <| pkf (.bool _) rfl rfl <| pkf (.bool _) rfl rfl <| jt <| c_false rfl <| c_skip <| e_then <| csr <| agi rfl <| jt <| c_seq <| csr <| agi rfl <| jt <| c_block <| c_loop (σ := Nat × Nat) (fun (i, n) => i ≤ w.length ∧ n = valN 10 (w.take i) ∧ ∀ j, j < i → digB (List.getD w j 0) = true) (fun (i, n) => w.length - i) (fun (i, n) => [(4, .int .i64 (i : Int)), (3, .int .i64 (n : Int))]) (fun (i, n) => []) (fun (i, n) => []) [2, 3, 4, 23, 24, 25, 26, 27, 28, 29, 30, 31, 32, 33, 34, 35, 36, 37, 38, 39, 40, 41, 42, 43, 44, 45, 46] (0, 0) (⟨by omega, by simp [valN], fun j hj => by omega⟩) ⟨rfl, rfl, trivial⟩ rfl rfl ?_
    rintro ⟨i, n⟩ g1 hI1
    try dsimp only at hI1 ⊢
    have HTD : (w.take i).all digB = true := all_yes (fun j hj => by rw [List.length_take] at hj; rw [show List.getD (w.take i) j 0 = List.getD w j 0 by simp [List.getD, List.getElem?_take, show j < i by omega]]; exact hI1.2.2 j (by omega))
    have HTL : (w.take i).length = i := by rw [List.length_take]; omega
    have HV := val_9 HTD (by omega) (Nat.le_refl _)
    rw [List.take_length] at HV
    have HN := hI1.2.1
    refine c_seq <| csr <| mvi rfl <| mvs rfl <| lenT (s := w) rfl uy9 <| cmp _ rfl rfl rfl <| jt <| c_cond rfl (fun h8 => ?_) (fun h8 => ?_)
    ·replace h8 := of_decide_eq_true h8
     refine c_skip <| e_then <| c_seq <| c_block <| c_seq <| csr <| mvs rfl <| mvi rfl <| idxT (s := w) i rfl rfl uy9 rfl (by first | omega | (simp; done) | (simp; omega) | (simp at *; omega)) <| cmp _ rfl rfl rfl <| mvb rfl <| jsplit 33 rfl (fun h9 => ?_) (fun h9 => ?_)
     ·replace h9 := of_decide_eq_true h9
      refine g_off rfl rfl rfl rfl <| g_off rfl rfl rfl rfl <| g_off rfl rfl rfl rfl <| g_off rfl rfl rfl rfl <| pkt (.bool _) rfl rfl <| jt <| c_true rfl <| csr <| agi rfl <| jt <| c_ret ?_
      exact j_z (own0 := []) (ro0 := []) (.inl rfl) rfl (hr1 Tryz.results59 (rvt (v := (.int _ _)) rfl)) rfl (⟨congrArg (Value.int _) (numV_chr (i := i) (by omega) (by omega)), rfl, rfl⟩)
     ·replace h9 := of_decide_eq_false h9
      refine g_on rfl rfl rfl <| mvs rfl <| g_on rfl rfl rfl <| mvi rfl <| g_on rfl rfl rfl <| idxT (s := w) i rfl rfl uy9 rfl (by first | omega | (simp; done) | (simp; omega) | (simp at *; omega)) <| g_on rfl rfl rfl <| cmp _ rfl rfl rfl <| pkf (.bool _) rfl rfl <| jt <| c_cond rfl (fun h10 => ?_) (fun h10 => ?_)
      ·replace h10 := of_decide_eq_true h10
       refine csr <| agi rfl <| jt <| c_ret ?_
       exact j_z (own0 := []) (ro0 := []) (.inl rfl) rfl (hr1 Tryz.results59 (rvt (v := (.int _ _)) rfl)) rfl (⟨congrArg (Value.int _) (numV_chr (i := i) (by omega) (by omega)), rfl, rfl⟩)
      ·replace h10 := of_decide_eq_false h10
       refine c_skip <| e_then ?_
       have HSU : ((List.getD w i 0) - 48).toNat = (List.getD w i 0).toNat - 48 := u8_sub (d := 48) (by show 48 ≤ _; omega)
       refine c_reg <| mvi rfl <| muli rfl rfl rfl (by omega) <| mvs rfl <| mvi rfl <| idxT (s := w) i rfl rfl uy9 rfl (by first | omega | (simp; done) | (simp; omega) | (simp at *; omega)) <| subU8 (a := (List.getD w i 0)) (b := (48 : UInt8)) rfl rfl <| cvI (((List.getD w i 0) - (48 : UInt8)).toNat : Int) rfl uy5 uy3 (wI64 (by have := UInt8.toNat_lt ((List.getD w i 0) - (48 : UInt8)); omega)) <| addi rfl rfl rfl (by omega) <| agi rfl <| jn <| e_in <| e_then <| c_reg <| mvi rfl <| addi rfl rfl rfl (by omega) <| agi rfl <| jn ?_
       exact e_loop (i + 1, n * 10 + ((List.getD w i 0) - 48).toNat) (⟨by omega, by rw [take_suc (by omega), valN_app, ← HN, HSU]; unfold dgv; rw [if_pos (by omega)], fun j hj => by rcases Nat.lt_or_ge j i with h | h; exact hI1.2.2 j h; rw [show j = i by omega]; exact dig_of (by omega) (by omega)⟩) (by show w.length - (i + 1) < w.length - i; omega) (⟨rfl, congrArg (Value.int _) (by omega), trivial⟩) rfl rfl rfl
    ·replace h8 := of_decide_eq_false h8
     refine c_exit rfl <| e_then <| csr <| mvi rfl <| agi rfl <| jt <| c_ret ?_
     exact j_z (own0 := []) (ro0 := []) (.inl rfl) rfl (hr1 Tryz.results59 (rvt (v := (.int _ _)) rfl)) rfl (⟨congrArg (Value.int _) (by rw [numV_done (by omega) (by omega) (fun hh => by first | omega | exact absurd hh.2 (by assumption)) (all_yes (fun j hj => hI1.2.2 j (by omega))), HN, show i = w.length by omega, List.take_length]), rfl, rfl⟩)
end Go.Proofs.YtakbbpahfclgnaaGreatDoor
namespace Go.Proofs.YtakbbpahfclgnaaGreatDoor
open Go Go.Proofs Go.PW
open Go.PW.Enc (enc val)
theorem rall_ct (w m : Str) (n : Int) (hw : w.length ≤ 140737488351232) (hm : m.length ≤ 100) : Ct Tryz.prog 57 [strV w, .int .i64 n, strV m] [] [] (fun v o r => v = .bool (allB w n m) ∧ o = [] ∧ r = []) := by
 refine ct_enter Tryz.func57 rfl Tryz.ntmps57 (by kernel_rfl) rfl fun w0 => ?_
 refine csr <| agb rfl <| jt <| c_seq <| csr <| agi rfl <| jt <| c_block <| c_loop (σ := Nat) (fun i => i ≤ w.length ∧ ∀ j, j < i → moreB m (List.getD w j 0) = true) (fun i => w.length - i) (fun i => [(7, .int .i64 (i : Int))]) (fun i => []) (fun i => []) [6, 7, 8, 9, 10, 11, 12, 13, 14, 15, 16, 17, 18, 19, 20, 21, 22, 23, 24, 25, 26, 27, 28, 29, 30, 31, 32, 33, 34, 35, 36, 37, 38, 39, 40, 41, 42, 43] 0 (⟨by omega, fun j hj => by omega⟩) ⟨rfl, trivial⟩ rfl rfl ?_
 rintro i g1 hI1
 try dsimp only at hI1 ⊢
 refine c_seq <| csr <| mvi rfl <| mvs rfl <| lenT (s := w) rfl uy9 <| cmp _ rfl rfl rfl <| jt <| c_cond rfl (fun h1 => ?_) (fun h1 => ?_)
 ·replace h1 := of_decide_eq_true h1
  refine c_skip <| e_then <| c_seq <| c_block <| csr <| mvs rfl <| mvi rfl <| idxT (s := w) i rfl rfl uy9 rfl (by first | omega | (simp; done) | (simp; omega) | (simp at *; omega)) <| cmp _ rfl rfl rfl <| mvb rfl <| jsplit 20 rfl (fun h2 => ?_) (fun h2 => ?_)
  ·replace h2 := of_decide_eq_true h2
   refine g_on rfl rfl rfl <| mvs rfl <| g_on rfl rfl rfl <| mvi rfl <| g_on rfl rfl rfl <| idxT (s := w) i rfl rfl uy9 rfl (by first | omega | (simp; done) | (simp; omega) | (simp at *; omega)) <| g_on rfl rfl rfl <| cmp _ rfl rfl rfl <| pkt (.bool _) rfl rfl <| agb rfl <| jt <| c_seq <| csr <| agi rfl <| jt <| c_block <| c_loop (σ := Nat × Bool) (fun (k, ok) => k ≤ m.length ∧ ok = (lowB (List.getD w i 0) || (m.take k).contains (List.getD w i 0))) (fun (k, ok) => m.length - k) (fun (k, ok) => [(9, .int .i64 (k : Int)), (8, .bool ok)]) (fun (k, ok) => []) (fun (k, ok) => []) [8, 9, 26, 27, 28, 29, 30, 31, 32, 33, 34, 35, 36, 37, 38, 39, 40, 41] (0, decide (((List.getD w i 0).toNat : Int) ≤ 122)) (⟨Nat.zero_le _, by rw [List.take_zero]; simp only [lowB]; first | (simp_all; done) | (simp_all; intros; omega)⟩) ⟨rfl, rfl, trivial⟩ rfl rfl ?_
   rintro ⟨k, ok⟩ g2 hI2
   try dsimp only at hI2 ⊢
   refine c_seq <| csr <| mvi rfl <| mvs rfl <| lenT (s := m) rfl uy9 <| cmp _ rfl rfl rfl <| jt <| c_cond rfl (fun h3 => ?_) (fun h3 => ?_)
   ·replace h3 := of_decide_eq_true h3
    refine c_skip <| e_then <| c_seq <| c_block <| c_dr [] [] [(0, 0), (1, 0), (2, 0), (3, 0), (4, 0), (5, 0), (6, 0), (7, 0), (8, 0), (9, 0), (10, 0)] follows (by kernel_rfl) calm_body (keepS [] rfl) <| mvb rfl <| mvb rfl <| jsplit 33 rfl (fun h4 => ?_) (fun h4 => ?_)
    ·refine g_off rfl rfl rfl rfl <| g_off rfl rfl rfl rfl <| g_off rfl rfl rfl rfl <| g_off rfl rfl rfl rfl <| g_off rfl rfl rfl rfl <| g_off rfl rfl rfl rfl <| g_off rfl rfl rfl rfl <| pkt (.bool _) rfl rfl <| agb rfl <| jn <| e_in <| e_then <| c_reg <| mvi rfl <| addi rfl rfl rfl (by omega) <| agi rfl <| jn ?_
     exact e_loop (k + 1, true) (⟨by omega, by rw [more_step (by omega), ← hI2.2]; simp_all⟩) (by show m.length - (k + 1) < m.length - k; omega) (⟨rfl, rfl, trivial⟩) rfl rfl rfl
    ·refine g_on rfl rfl rfl <| mvs rfl <| g_on rfl rfl rfl <| mvi rfl <| g_on rfl rfl rfl <| idxT (s := w) i rfl rfl uy9 rfl (by first | omega | (simp; done) | (simp; omega) | (simp at *; omega)) <| g_on rfl rfl rfl <| mvs rfl <| g_on rfl rfl rfl <| mvi rfl <| g_on rfl rfl rfl <| idxT (s := m) k rfl rfl uy9 rfl (by first | omega | (simp; done) | (simp; omega) | (simp at *; omega)) <| g_on rfl rfl rfl <| equ8 (a := (List.getD w i 0)) (b := (List.getD m k 0)) _ rfl rfl rfl <| pkf (.bool _) rfl rfl <| agb rfl <| jn <| e_in <| e_then <| c_reg <| mvi rfl <| addi rfl rfl rfl (by omega) <| agi rfl <| jn ?_
     exact e_loop (k + 1, decide ((List.getD w i 0) = (List.getD m k 0))) (⟨by omega, by rw [more_step (by omega), ← hI2.2]; simp_all⟩) (by show m.length - (k + 1) < m.length - k; omega) (⟨rfl, rfl, trivial⟩) rfl rfl rfl
   ·replace h3 := of_decide_eq_false h3
    refine c_exit rfl <| e_then <| c_seq ?_
    have HB : ok = (lowB (List.getD w i 0) || m.contains (List.getD w i 0)) := by rw [hI2.2, show k = m.length by omega, List.take_length]
    refine c_reg <| mvb rfl <| not_ rfl <| jt <| c_cond rfl (fun h5 => ?_) (fun h5 => ?_)
    ·refine csr <| agb rfl <| jt <| c_ret ?_
     exact j_z (own0 := []) (ro0 := []) (.inl rfl) rfl (hr1 Tryz.results57 (rvt (v := (.bool _)) rfl)) rfl (⟨congrArg Value.bool (by unfold allB; rw [all_no (p := moreB m) (i := i) (by omega) (by unfold moreB; rw [← HB]; exact notT (by assumption))]; rfl), rfl, rfl⟩)
    ·refine c_skip <| e_in <| e_then <| c_reg <| mvi rfl <| addi rfl rfl rfl (by omega) <| agi rfl <| jn ?_
     exact e_lp (i + 1) (by repeat (first | exact out_self | refine out_hav (by kernel_rfl) ?_ | refine out_look (by kernel_rfl) ?_)) (⟨by omega, fun j hj => by rcases Nat.lt_or_ge j i with h | h; exact hI1.2 j h; rw [show j = i by omega]; unfold moreB; rw [← HB]; exact notF (by assumption)⟩) (by show w.length - (i + 1) < w.length - i; omega) (⟨rfl, trivial⟩) rfl rfl rfl
  ·replace h2 := of_decide_eq_false h2
   refine g_off rfl rfl rfl rfl <| g_off rfl rfl rfl rfl <| g_off rfl rfl rfl rfl <| g_off rfl rfl rfl rfl <| pkf (.bool _) rfl rfl <| agb rfl <| jt <| c_seq <| csr <| agi rfl <| jt <| c_block <| c_loop (σ := Nat × Bool) (fun (k, ok) => k ≤ m.length ∧ ok = (lowB (List.getD w i 0) || (m.take k).contains (List.getD w i 0))) (fun (k, ok) => m.length - k) (fun (k, ok) => [(9, .int .i64 (k : Int)), (8, .bool ok)]) (fun (k, ok) => []) (fun (k, ok) => []) [8, 9, 26, 27, 28, 29, 30, 31, 32, 33, 34, 35, 36, 37, 38, 39, 40, 41] (0, false) (⟨Nat.zero_le _, by rw [List.take_zero]; simp only [lowB]; first | (simp_all; done) | (simp_all; intros; omega)⟩) ⟨rfl, rfl, trivial⟩ rfl rfl ?_
   rintro ⟨k, ok⟩ g2 hI2
   try dsimp only at hI2 ⊢
   refine c_seq <| csr <| mvi rfl <| mvs rfl <| lenT (s := m) rfl uy9 <| cmp _ rfl rfl rfl <| jt <| c_cond rfl (fun h6 => ?_) (fun h6 => ?_)
   ·replace h6 := of_decide_eq_true h6
    refine c_skip <| e_then <| c_seq <| c_block <| c_dr [] [] [(0, 0), (1, 0), (2, 0), (3, 0), (4, 0), (5, 0), (6, 0), (7, 0), (8, 0), (9, 0), (10, 0)] follows (by kernel_rfl) calm_body (keepS [] rfl) <| mvb rfl <| mvb rfl <| jsplit 33 rfl (fun h7 => ?_) (fun h7 => ?_)
    ·refine g_off rfl rfl rfl rfl <| g_off rfl rfl rfl rfl <| g_off rfl rfl rfl rfl <| g_off rfl rfl rfl rfl <| g_off rfl rfl rfl rfl <| g_off rfl rfl rfl rfl <| g_off rfl rfl rfl rfl <| pkt (.bool _) rfl rfl <| agb rfl <| jn <| e_in <| e_then <| c_reg <| mvi rfl <| addi rfl rfl rfl (by omega) <| agi rfl <| jn ?_
     exact e_loop (k + 1, true) (⟨by omega, by rw [more_step (by omega), ← hI2.2]; simp_all⟩) (by show m.length - (k + 1) < m.length - k; omega) (⟨rfl, rfl, trivial⟩) rfl rfl rfl
    ·refine g_on rfl rfl rfl <| mvs rfl <| g_on rfl rfl rfl <| mvi rfl <| g_on rfl rfl rfl <| idxT (s := w) i rfl rfl uy9 rfl (by first | omega | (simp; done) | (simp; omega) | (simp at *; omega)) <| g_on rfl rfl rfl <| mvs rfl <| g_on rfl rfl rfl <| mvi rfl <| g_on rfl rfl rfl <| idxT (s := m) k rfl rfl uy9 rfl (by first | omega | (simp; done) | (simp; omega) | (simp at *; omega)) <| g_on rfl rfl rfl <| equ8 (a := (List.getD w i 0)) (b := (List.getD m k 0)) _ rfl rfl rfl <| pkf (.bool _) rfl rfl <| agb rfl <| jn <| e_in <| e_then <| c_reg <| mvi rfl <| addi rfl rfl rfl (by omega) <| agi rfl <| jn ?_
     exact e_loop (k + 1, decide ((List.getD w i 0) = (List.getD m k 0))) (⟨by omega, by rw [more_step (by omega), ← hI2.2]; simp_all⟩) (by show m.length - (k + 1) < m.length - k; omega) (⟨rfl, rfl, trivial⟩) rfl rfl rfl
   ·replace h6 := of_decide_eq_false h6
    refine c_exit rfl <| e_then <| c_seq ?_
    have HB : ok = (lowB (List.getD w i 0) || m.contains (List.getD w i 0)) := by rw [hI2.2, show k = m.length by omega, List.take_length]
    refine c_reg <| mvb rfl <| not_ rfl <| jt <| c_cond rfl (fun h8 => ?_) (fun h8 => ?_)
    ·refine csr <| agb rfl <| jt <| c_ret ?_
     exact j_z (own0 := []) (ro0 := []) (.inl rfl) rfl (hr1 Tryz.results57 (rvt (v := (.bool _)) rfl)) rfl (⟨congrArg Value.bool (by unfold allB; rw [all_no (p := moreB m) (i := i) (by omega) (by unfold moreB; rw [← HB]; exact notT (by assumption))]; rfl), rfl, rfl⟩)
    ·refine c_skip <| e_in <| e_then <| c_reg <| mvi rfl <| addi rfl rfl rfl (by omega) <| agi rfl <| jn ?_
     exact e_lp (i + 1) (by repeat (first | exact out_self | refine out_hav (by kernel_rfl) ?_ | refine out_look (by kernel_rfl) ?_)) (⟨by omega, fun j hj => by rcases Nat.lt_or_ge j i with h | h; exact hI1.2 j h; rw [show j = i by omega]; unfold moreB; rw [← HB]; exact notF (by assumption)⟩) (by show w.length - (i + 1) < w.length - i; omega) (⟨rfl, trivial⟩) rfl rfl rfl
 ·replace h1 := of_decide_eq_false h1
  refine c_exit rfl <| e_then <| csr <| mvs rfl <| lenT (s := w) rfl uy9 <| cmp _ rfl rfl rfl <| mvb rfl <| jsplit 47 rfl (fun h9 => ?_) (fun h9 => ?_)
  ·replace h9 := of_decide_eq_true h9
   refine g_on rfl rfl rfl <| mvs rfl <| g_on rfl rfl rfl <| lenT (s := w) rfl uy9 <| g_on rfl rfl rfl <| mvi rfl <| g_on rfl rfl rfl <| cmp _ rfl rfl rfl <| pkt (.bool _) rfl rfl <| agb rfl <| jt <| c_ret ?_
   exact j_z (own0 := []) (ro0 := []) (.inl rfl) rfl (hr1 Tryz.results57 (rvt (v := (.bool _)) rfl)) rfl (⟨congrArg Value.bool (by unfold allB; rw [all_yes (p := moreB m) (fun j hj => hI1.2 j (by omega))]; first | (simp_all; done) | (simp_all; intros; omega)), rfl, rfl⟩)
  ·replace h9 := of_decide_eq_false h9
   refine g_off rfl rfl rfl rfl <| g_off rfl rfl rfl rfl <| g_off rfl rfl rfl rfl <| g_off rfl rfl rfl rfl <| pkf (.bool _) rfl rfl <| agb rfl <| jt <| c_ret ?_
   exact j_z (own0 := []) (ro0 := []) (.inl rfl) rfl (hr1 Tryz.results57 (rvt (v := (.bool _)) rfl)) rfl (⟨congrArg Value.bool (by unfold allB; rw [all_yes (p := moreB m) (fun j hj => hI1.2 j (by omega))]; first | (simp_all; done) | (simp_all; intros; omega)), rfl, rfl⟩)
theorem Bytes_ct (w : Str) (h0 : 0 < w.length) (hw : w.length ≤ 1000000) : Ct Tryz.prog 58 [strV w] [] [] (fun v o r => ∃ (a : Option Addr) (n c : Nat), v = .tuple #[.slice a n c, .bool (fit16 104 w)] ∧ o = [] ∧ r = []) := by
 refine ct_enter Tryz.func58 rfl Tryz.ntmps58 (by kernel_rfl) rfl fun w0 => ?_
 refine csr <| agl rfl <| agb rfl <| jt <| c_seq <| csr <| mvs rfl <| scmp (a := w) (b := ([45] : Str)) _ rfl rfl uy9 rfl <| jt <| c_cond rfl (fun h1 => ?_) (fun h1 => ?_)
 ·replace h1 := of_decide_eq_true h1
  refine csr <| agl rfl <| agb rfl <| jt <| c_ret ?_
  exact j_z (own0 := []) (ro0 := []) (.inl rfl) rfl (hr2 Tryz.results58 (rvt (v := (.slice _ _ _)) rfl) (rvt (v := (.bool _)) rfl)) rfl (⟨_, _, _, by rw [show w = [45] by assumption]; rfl, rfl, rfl⟩)
 ·replace h1 := of_decide_eq_false h1
  refine c_skip <| e_then <| c_seq <| csr <| mvs rfl <| lenT (s := w) rfl uy9 <| cmp _ rfl rfl rfl <| mvb rfl <| jsplit 13 rfl (fun h2 => ?_) (fun h2 => ?_)
  ·replace h2 := of_decide_eq_true h2
   refine g_off rfl rfl rfl rfl <| g_off rfl rfl rfl rfl <| g_off rfl rfl rfl rfl <| g_off rfl rfl rfl rfl <| pkt (.bool _) rfl rfl <| jt <| c_true rfl <| csr <| agl rfl <| agb rfl <| jt <| c_ret ?_
   exact j_z (own0 := []) (ro0 := []) (.inl rfl) rfl (hr2 Tryz.results58 (rvt (v := (.slice _ _ _)) rfl) (rvt (v := (.bool _)) rfl)) rfl (⟨_, _, _, by rw [hex_odd (by assumption) (by omega)], rfl, rfl⟩)
  ·replace h2 := of_decide_eq_false h2
   refine g_on rfl rfl rfl <| mvs rfl <| g_on rfl rfl rfl <| lenT (s := w) rfl uy9 <| g_on rfl rfl rfl <| remn (a := w.length) (b := 2) rfl rfl (by decide) <| g_on rfl rfl rfl <| cmp _ rfl rfl rfl <| pkf (.bool _) rfl rfl <| jt <| c_cond rfl (fun h3 => ?_) (fun h3 => ?_)
   ·replace h3 := ndt h3
    refine csr <| agl rfl <| agb rfl <| jt <| c_ret ?_
    exact j_z (own0 := []) (ro0 := []) (.inl rfl) rfl (hr2 Tryz.results58 (rvt (v := (.slice _ _ _)) rfl) (rvt (v := (.bool _)) rfl)) rfl (⟨_, _, _, by rw [hex_odd (by assumption) (by omega)], rfl, rfl⟩)
   ·replace h3 := ndf h3
    refine c_skip <| e_then <| csr <| agl rfl <| jt <| c_seq <| csr <| agi rfl <| jt <| c_block <| c_addE <| c_loop (σ := Nat × Ow × Str) (fun (i, o, xs) => i ≤ w.length ∧ i % 2 = 0 ∧ o.ok xs ∧ xs.length ≤ i ∧ ∀ j, j < i → hexv (List.getD w j 0) < 16) (fun (i, o, xs) => w.length - i) (fun (i, o, xs) => [(5, .int .i64 (i : Int)), (4, .slice o.adr xs.length o.cap)]) (fun (i, o, xs) => [o.seg xs 5]) (fun (i, o, xs) => []) [2, 3, 4, 5, 6, 7, 19, 20, 21, 22, 23, 24, 25, 26, 27, 28, 29, 30, 31, 32, 33, 34, 35, 36, 37, 38, 39, 40, 41, 42, 43, 44, 45, 46, 47] (0, Ow.nil, []) (⟨by omega, rfl, Ow.nil_ok, Nat.le_refl _, fun j hj => by omega⟩) ⟨rfl, rfl, trivial⟩ rfl rfl ?_
    rintro ⟨i, o, xs⟩ g1 hI1
    try dsimp only at hI1 ⊢
    have HX4 := hI1.2.2.2.1
    have HI2 := hI1.2.1
    refine c_seq <| csr <| mvi rfl <| mvs rfl <| lenT (s := w) rfl uy9 <| cmp _ rfl rfl rfl <| jt <| c_cond rfl (fun h4 => ?_) (fun h4 => ?_)
    ·replace h4 := of_decide_eq_true h4
     refine c_skip <| e_then <| c_seq <| c_block <| csr <| mvs rfl <| mvi rfl <| idxT (s := w) i rfl rfl uy9 rfl (by first | omega | (simp; done) | (simp; omega) | (simp at *; omega)) <| cal (Digit_ct (List.getD w i 0)) [] [0] [_] rfl rfl rfl (by kernel_rfl) impl_nil rfl ?_; rintro _ _ _ ⟨rfl, rfl, rfl⟩; refine ⟨trivial, ?_⟩
     refine agi rfl <| jsr <| mvs rfl <| mvi rfl <| addi rfl rfl rfl (by omega) <| idxT (s := w) (i + 1) rfl rfl uy9 rfl (by first | omega | (simp; done) | (simp; omega) | (simp at *; omega)) <| cal (Digit_ct (List.getD w (i + 1) 0)) [] [0] [_] rfl rfl rfl (by kernel_rfl) impl_nil rfl ?_; rintro _ _ _ ⟨rfl, rfl, rfl⟩; refine ⟨trivial, ?_⟩
     refine agi rfl <| jt <| c_seq <| csr <| mvi rfl <| cmp _ rfl rfl rfl <| mvb rfl <| jsplit 36 rfl (fun h5 => ?_) (fun h5 => ?_)
     ·replace h5 := of_decide_eq_true h5
      refine g_off rfl rfl rfl rfl <| g_off rfl rfl rfl rfl <| pkt (.bool _) rfl rfl <| jt <| c_true rfl <| csr <| agl rfl <| agb rfl <| jt <| c_ret ?_
      exact j_d (own0 := []) (ro0 := []) (.inl rfl) rfl (hr2 Tryz.results58 (rvt (v := (.slice _ _ _)) rfl) (rvt (v := (.bool _)) rfl)) [0] [_] rfl (by kernel_rfl) rfl (⟨_, _, _, by first | (rw [hex_no (by assumption) (i := i) (by omega) (dgI_neg (by omega))]) | (rw [hex_no (by assumption) (i := i + 1) (by omega) (dgI_neg (by omega))]), rfl, rfl⟩)
     ·replace h5 := of_decide_eq_false h5
      refine g_on rfl rfl rfl <| mvi rfl <| g_on rfl rfl rfl <| cmp _ rfl rfl rfl <| pkf (.bool _) rfl rfl <| jt <| c_cond rfl (fun h6 => ?_) (fun h6 => ?_)
      ·replace h6 := of_decide_eq_true h6
       refine csr <| agl rfl <| agb rfl <| jt <| c_ret ?_
       exact j_d (own0 := []) (ro0 := []) (.inl rfl) rfl (hr2 Tryz.results58 (rvt (v := (.slice _ _ _)) rfl) (rvt (v := (.bool _)) rfl)) [0] [_] rfl (by kernel_rfl) rfl (⟨_, _, _, by first | (rw [hex_no (by assumption) (i := i) (by omega) (dgI_neg (by omega))]) | (rw [hex_no (by assumption) (i := i + 1) (by omega) (dgI_neg (by omega))]), rfl, rfl⟩)
      ·replace h6 := of_decide_eq_false h6
       refine c_skip <| e_then ?_
       have H0 := dgI_pos (c := List.getD w i 0) (by omega)
       have H1 := dgI_pos (c := List.getD w (i + 1) 0) (by omega)
       refine c_reg <| mvl rfl <| mvi rfl <| muli rfl rfl rfl (by omega) <| mvi rfl <| addi rfl rfl rfl (by omega) <| cvZU8 (n := ((16 * (dgI (List.getD w i 0))) + (dgI (List.getD w (i + 1) 0)))) rfl uy3 uy5 <| bsl (α := UInt8) ([(UInt8.ofInt ((16 * (dgI (List.getD w i 0))) + (dgI (List.getD w (i + 1) 0))))]) uy93 ty5.sz rfl (by decide) z5 rfl fun b46 => ⟨trivial, ?_⟩
       refine app 0 o xs ([(UInt8.ofInt ((16 * (dgI (List.getD w i 0))) + (dgI (List.getD w (i + 1) 0))))] : List UInt8) hI1.2.2.1 rfl ⟨rfl, rfl, rfl⟩ rfl rfl (gives_own (ys := ([(UInt8.ofInt ((16 * (dgI (List.getD w i 0))) + (dgI (List.getD w (i + 1) 0))))] : List UInt8)) (pre := []) (post := []) 1 rfl (by simp) rfl) uy93 uy93 (.inl ⟨_, rfl⟩) ty5.sz by5 z5 rfl (by simp; omega) rfl fun o47_1 hk47_1 => ⟨trivial, ?_⟩
       refine agl rfl <| jn <| e_in <| e_then <| c_reg <| mvi rfl <| addi rfl rfl rfl (by omega) <| agi rfl <| jn <| e_keep [0] [1] [_] rfl (by kernel_rfl) ?_
       exact e_loop (i + 2, o47_1, (xs ++ ([(UInt8.ofInt ((16 * (dgI (List.getD w i 0))) + (dgI (List.getD w (i + 1) 0))))] : List UInt8))) (⟨by omega, by omega, hk47_1, by simp; omega, fun j hj => by rcases Nat.lt_or_ge j i with h | h; exact hI1.2.2.2.2 j h; rcases Nat.lt_or_ge j (i + 1) with h' | h'; rw [show j = i by omega]; exact H0.1; rw [show j = i + 1 by omega]; exact H1.1⟩) (by show w.length - (i + 2) < w.length - i; omega) (⟨rfl, rfl, trivial⟩) rfl rfl rfl
    ·replace h4 := of_decide_eq_false h4
     refine c_exit rfl <| e_then <| csr <| mvl rfl <| agl rfl <| agb rfl <| jt <| c_ret ?_
     exact j_d (own0 := []) (ro0 := []) (.inl rfl) rfl (hr2 Tryz.results58 (rvt (v := (.slice _ _ _)) rfl) (rvt (v := (.bool _)) rfl)) [0] [_] rfl (by kernel_rfl) rfl (⟨_, _, _, by rw [hex_yes (by assumption) (by omega) (fun j hj => hI1.2.2.2.2 j (by omega))], rfl, rfl⟩)
theorem rfits_version (w : Str) (h0 : 0 < w.length) (hw : w.length ≤ 1000000) : Ct Tryz.prog 33 [strV w, .int .u8 118] [] [] (fun v o r => v = .bool (fit16 118 w) ∧ o = [] ∧ r = []) := by
 refine ct_enter Tryz.func33 rfl Tryz.ntmps33 (by kernel_rfl) rfl fun w0 => ?_
 refine csr <| agb rfl <| jt <| c_seq <| csr <| mvi rfl <| jt <| c_block <| csr <| cmp false rfl rfl rfl <| agb rfl <| jt <| c_false rfl <| csr <| cmp false rfl rfl rfl <| agb rfl <| jt <| c_false rfl <| csr <| cmp false rfl rfl rfl <| agb rfl <| jt <| c_false rfl <| csr <| cmp false rfl rfl rfl <| agb rfl <| jt <| c_false rfl <| csr <| cmp true rfl rfl rfl <| agb rfl <| jt <| c_true rfl ?_
 refine csr <| mvs rfl <| scmp (a := w) (b := ([49] : Str)) _ rfl rfl uy9 rfl <| mvb rfl <| jsplit 39 rfl (fun h1 => ?_) (fun h1 => ?_)
 ·replace h1 := of_decide_eq_true h1
  refine g_off rfl rfl rfl rfl <| g_off rfl rfl rfl rfl <| pkt (.bool _) rfl rfl <| agb rfl <| jt <| c_ret ?_
  exact j_z (own0 := []) (ro0 := []) (.inl rfl) rfl (hr1 Tryz.results33 (rvt (v := (.bool _)) rfl)) rfl (⟨congrArg Value.bool (by simp only [fit16]; first | (simp_all; done) | (simp_all; intros; omega)), rfl, rfl⟩)
 ·replace h1 := of_decide_eq_false h1
  refine g_on rfl rfl rfl <| mvs rfl <| g_on rfl rfl rfl <| scmp (a := w) (b := ([50] : Str)) _ rfl rfl uy9 rfl <| pkf (.bool _) rfl rfl <| agb rfl <| jt <| c_ret ?_
  exact j_z (own0 := []) (ro0 := []) (.inl rfl) rfl (hr1 Tryz.results33 (rvt (v := (.bool _)) rfl)) rfl (⟨congrArg Value.bool (by simp only [fit16]; first | (simp_all; done) | (simp_all; intros; omega)), rfl, rfl⟩)
theorem rfits_skip (w : Str) (h0 : 0 < w.length) (hw : w.length ≤ 1000000) : Ct Tryz.prog 33 [strV w, .int .u8 107] [] [] (fun v o r => v = .bool (fit16 107 w) ∧ o = [] ∧ r = []) := by
 refine ct_enter Tryz.func33 rfl Tryz.ntmps33 (by kernel_rfl) rfl fun w0 => ?_
 refine csr <| agb rfl <| jt <| c_seq <| csr <| mvi rfl <| jt <| c_block <| csr <| cmp false rfl rfl rfl <| agb rfl <| jt <| c_false rfl <| csr <| cmp false rfl rfl rfl <| agb rfl <| jt <| c_false rfl <| csr <| cmp false rfl rfl rfl <| agb rfl <| jt <| c_false rfl <| csr <| cmp false rfl rfl rfl <| agb rfl <| jt <| c_false rfl <| csr <| cmp false rfl rfl rfl <| agb rfl <| jt <| c_false rfl ?_
 refine csr <| cmp true rfl rfl rfl <| agb rfl <| jt <| c_true rfl <| csr <| mvs rfl <| cal (Number_ct w (by omega)) [] [] [] rfl rfl rfl (by kernel_rfl) impl_nil rfl ?_; rintro _ _ _ ⟨rfl, rfl, rfl⟩; refine ⟨trivial, ?_⟩
 refine agi rfl <| jsr <| mvi rfl <| cmp _ rfl rfl rfl <| mvb rfl <| jsplit 49 rfl (fun h1 => ?_) (fun h1 => ?_)
 ·replace h1 := of_decide_eq_true h1
  refine g_on rfl rfl rfl <| mvi rfl <| g_on rfl rfl rfl <| cmp _ rfl rfl rfl <| pkt (.bool _) rfl rfl <| agb rfl <| jt <| c_ret ?_
  exact j_z (own0 := []) (ro0 := []) (.inl rfl) rfl (hr1 Tryz.results33 (rvt (v := (.bool _)) rfl)) rfl (⟨congrArg Value.bool (by have HF := numV_0 h0; have H1 := numV_le h0 1000; have H2 := numV_le h0 2000; show _ = fit16 107 w; simp only [fit16]; first | (exact HF) | (simp only [show ¬ ((107 : UInt8) = 118) by decide, show ¬ ((116 : UInt8) = 118) by decide, show ¬ ((116 : UInt8) = 107) by decide, if_false, if_true]; (first | rw [← H1] | rw [← H2]); first | (rw [decide_eq_true (show (0 : Int) ≤ numV w by omega)]; rfl) | (rw [decide_eq_false (show ¬ (0 : Int) ≤ numV w by omega)]; rfl))), rfl, rfl⟩)
 ·replace h1 := of_decide_eq_false h1
  refine g_off rfl rfl rfl rfl <| g_off rfl rfl rfl rfl <| pkf (.bool _) rfl rfl <| agb rfl <| jt <| c_ret ?_
  exact j_z (own0 := []) (ro0 := []) (.inl rfl) rfl (hr1 Tryz.results33 (rvt (v := (.bool _)) rfl)) rfl (⟨congrArg Value.bool (by have HF := numV_0 h0; have H1 := numV_le h0 1000; have H2 := numV_le h0 2000; show _ = fit16 107 w; simp only [fit16]; first | (exact HF) | (simp only [show ¬ ((107 : UInt8) = 118) by decide, show ¬ ((116 : UInt8) = 118) by decide, show ¬ ((116 : UInt8) = 107) by decide, if_false, if_true]; (first | rw [← H1] | rw [← H2]); first | (rw [decide_eq_true (show (0 : Int) ≤ numV w by omega)]; rfl) | (rw [decide_eq_false (show ¬ (0 : Int) ≤ numV w by omega)]; rfl))), rfl, rfl⟩)
theorem rfits_store (w : Str) (h0 : 0 < w.length) (hw : w.length ≤ 1000000) : Ct Tryz.prog 33 [strV w, .int .u8 116] [] [] (fun v o r => v = .bool (fit16 116 w) ∧ o = [] ∧ r = []) := by
 refine ct_enter Tryz.func33 rfl Tryz.ntmps33 (by kernel_rfl) rfl fun w0 => ?_
 refine csr <| agb rfl <| jt <| c_seq <| csr <| mvi rfl <| jt <| c_block <| csr <| cmp false rfl rfl rfl <| agb rfl <| jt <| c_false rfl <| csr <| cmp false rfl rfl rfl <| agb rfl <| jt <| c_false rfl <| csr <| cmp false rfl rfl rfl <| agb rfl <| jt <| c_false rfl <| csr <| cmp false rfl rfl rfl <| agb rfl <| jt <| c_false rfl <| csr <| cmp false rfl rfl rfl <| agb rfl <| jt <| c_false rfl ?_
 refine csr <| cmp false rfl rfl rfl <| agb rfl <| jt <| c_false rfl <| csr <| cmp true rfl rfl rfl <| agb rfl <| jt <| c_true rfl <| csr <| mvs rfl <| cal (Number_ct w (by omega)) [] [] [] rfl rfl rfl (by kernel_rfl) impl_nil rfl ?_; rintro _ _ _ ⟨rfl, rfl, rfl⟩; refine ⟨trivial, ?_⟩
 refine agi rfl <| jsr <| mvi rfl <| cmp _ rfl rfl rfl <| mvb rfl <| jsplit 59 rfl (fun h1 => ?_) (fun h1 => ?_)
 ·replace h1 := of_decide_eq_true h1
  refine g_on rfl rfl rfl <| mvi rfl <| g_on rfl rfl rfl <| cmp _ rfl rfl rfl <| pkt (.bool _) rfl rfl <| agb rfl <| jt <| c_ret ?_
  exact j_z (own0 := []) (ro0 := []) (.inl rfl) rfl (hr1 Tryz.results33 (rvt (v := (.bool _)) rfl)) rfl (⟨congrArg Value.bool (by have HF := numV_0 h0; have H1 := numV_le h0 1000; have H2 := numV_le h0 2000; show _ = fit16 116 w; simp only [fit16]; first | (exact HF) | (simp only [show ¬ ((107 : UInt8) = 118) by decide, show ¬ ((116 : UInt8) = 118) by decide, show ¬ ((116 : UInt8) = 107) by decide, if_false, if_true]; (first | rw [← H1] | rw [← H2]); first | (rw [decide_eq_true (show (0 : Int) ≤ numV w by omega)]; rfl) | (rw [decide_eq_false (show ¬ (0 : Int) ≤ numV w by omega)]; rfl))), rfl, rfl⟩)
 ·replace h1 := of_decide_eq_false h1
  refine g_off rfl rfl rfl rfl <| g_off rfl rfl rfl rfl <| pkf (.bool _) rfl rfl <| agb rfl <| jt <| c_ret ?_
  exact j_z (own0 := []) (ro0 := []) (.inl rfl) rfl (hr1 Tryz.results33 (rvt (v := (.bool _)) rfl)) rfl (⟨congrArg Value.bool (by have HF := numV_0 h0; have H1 := numV_le h0 1000; have H2 := numV_le h0 2000; show _ = fit16 116 w; simp only [fit16]; first | (exact HF) | (simp only [show ¬ ((107 : UInt8) = 118) by decide, show ¬ ((116 : UInt8) = 118) by decide, show ¬ ((116 : UInt8) = 107) by decide, if_false, if_true]; (first | rw [← H1] | rw [← H2]); first | (rw [decide_eq_true (show (0 : Int) ≤ numV w by omega)]; rfl) | (rw [decide_eq_false (show ¬ (0 : Int) ≤ numV w by omega)]; rfl))), rfl, rfl⟩)
theorem rfits_number (w : Str) (h0 : 0 < w.length) (hw : w.length ≤ 1000000) : Ct Tryz.prog 33 [strV w, .int .u8 110] [] [] (fun v o r => v = .bool (fit16 110 w) ∧ o = [] ∧ r = []) := by
 refine ct_enter Tryz.func33 rfl Tryz.ntmps33 (by kernel_rfl) rfl fun w0 => ?_
 refine csr <| agb rfl <| jt <| c_seq <| csr <| mvi rfl <| jt <| c_block <| csr <| cmp false rfl rfl rfl <| agb rfl <| jt <| c_false rfl <| csr <| cmp false rfl rfl rfl <| agb rfl <| jt <| c_false rfl <| csr <| cmp false rfl rfl rfl <| agb rfl <| jt <| c_false rfl <| csr <| cmp true rfl rfl rfl <| agb rfl <| jt <| c_true rfl <| csr <| mvs rfl <| cal (Number_ct w (by omega)) [] [] [] rfl rfl rfl (by kernel_rfl) impl_nil rfl ?_; rintro _ _ _ ⟨rfl, rfl, rfl⟩; refine ⟨trivial, ?_⟩
 refine cmp _ rfl rfl rfl <| agb rfl <| jt <| c_ret ?_
 exact j_z (own0 := []) (ro0 := []) (.inl rfl) rfl (hr1 Tryz.results33 (rvt (v := (.bool _)) rfl)) rfl (⟨congrArg Value.bool (by have HF := numV_0 h0; have H1 := numV_le h0 1000; have H2 := numV_le h0 2000; show _ = fit16 110 w; simp only [fit16]; first | (exact HF) | (simp only [show ¬ ((107 : UInt8) = 118) by decide, show ¬ ((116 : UInt8) = 118) by decide, show ¬ ((116 : UInt8) = 107) by decide, if_false, if_true]; (first | rw [← H1] | rw [← H2]); first | (rw [decide_eq_true (show (0 : Int) ≤ numV w by omega)]; rfl) | (rw [decide_eq_false (show ¬ (0 : Int) ≤ numV w by omega)]; rfl))), rfl, rfl⟩)
theorem rfits_side (w : Str) (h0 : 0 < w.length) (hw : w.length ≤ 1000000) : Ct Tryz.prog 33 [strV w, .int .u8 115] [] [] (fun v o r => v = .bool (fit16 115 w) ∧ o = [] ∧ r = []) := by
 refine ct_enter Tryz.func33 rfl Tryz.ntmps33 (by kernel_rfl) rfl fun w0 => ?_
 refine csr <| agb rfl <| jt <| c_seq <| csr <| mvi rfl <| jt <| c_block <| csr <| cmp true rfl rfl rfl <| agb rfl <| jt <| c_true rfl <| csr <| mvs rfl <| scmp (a := w) (b := ([97, 108, 105, 99, 101] : Str)) _ rfl rfl uy9 rfl <| mvb rfl <| jsplit 14 rfl (fun h1 => ?_) (fun h1 => ?_)
 ·replace h1 := of_decide_eq_true h1
  refine g_off rfl rfl rfl rfl <| g_off rfl rfl rfl rfl <| pkt (.bool _) rfl rfl <| agb rfl <| jt <| c_ret ?_
  exact j_z (own0 := []) (ro0 := []) (.inl rfl) rfl (hr1 Tryz.results33 (rvt (v := (.bool _)) rfl)) rfl (⟨congrArg Value.bool (by simp only [fit16]; first | (simp_all; done) | (simp_all; intros; omega)), rfl, rfl⟩)
 ·replace h1 := of_decide_eq_false h1
  refine g_on rfl rfl rfl <| mvs rfl <| g_on rfl rfl rfl <| scmp (a := w) (b := ([98, 111, 98] : Str)) _ rfl rfl uy9 rfl <| pkf (.bool _) rfl rfl <| agb rfl <| jt <| c_ret ?_
  exact j_z (own0 := []) (ro0 := []) (.inl rfl) rfl (hr1 Tryz.results33 (rvt (v := (.bool _)) rfl)) rfl (⟨congrArg Value.bool (by simp only [fit16]; first | (simp_all; done) | (simp_all; intros; omega)), rfl, rfl⟩)
theorem rfits_once (w : Str) (h0 : 0 < w.length) (hw : w.length ≤ 1000000) : Ct Tryz.prog 33 [strV w, .int .u8 111] [] [] (fun v o r => v = .bool (fit16 111 w) ∧ o = [] ∧ r = []) := by
 refine ct_enter Tryz.func33 rfl Tryz.ntmps33 (by kernel_rfl) rfl fun w0 => ?_
 refine csr <| agb rfl <| jt <| c_seq <| csr <| mvi rfl <| jt <| c_block <| csr <| cmp false rfl rfl rfl <| agb rfl <| jt <| c_false rfl <| csr <| cmp false rfl rfl rfl <| agb rfl <| jt <| c_false rfl <| csr <| cmp false rfl rfl rfl <| agb rfl <| jt <| c_false rfl <| csr <| cmp false rfl rfl rfl <| agb rfl <| jt <| c_false rfl <| csr <| cmp false rfl rfl rfl <| agb rfl <| jt <| c_false rfl ?_
 refine csr <| cmp false rfl rfl rfl <| agb rfl <| jt <| c_false rfl <| csr <| cmp false rfl rfl rfl <| agb rfl <| jt <| c_false rfl <| csr <| cmp true rfl rfl rfl <| agb rfl <| jt <| c_true rfl <| csr <| mvs rfl <| scmp (a := w) (b := ([111, 110, 99, 101] : Str)) _ rfl rfl uy9 rfl <| mvb rfl <| jsplit 67 rfl (fun h1 => ?_) (fun h1 => ?_)
 ·replace h1 := of_decide_eq_true h1
  refine g_off rfl rfl rfl rfl <| g_off rfl rfl rfl rfl <| pkt (.bool _) rfl rfl <| agb rfl <| jt <| c_ret ?_
  exact j_z (own0 := []) (ro0 := []) (.inl rfl) rfl (hr1 Tryz.results33 (rvt (v := (.bool _)) rfl)) rfl (⟨congrArg Value.bool (by simp only [fit16]; first | (simp_all; done) | (simp_all; intros; omega)), rfl, rfl⟩)
 ·replace h1 := of_decide_eq_false h1
  refine g_on rfl rfl rfl <| mvs rfl <| g_on rfl rfl rfl <| scmp (a := w) (b := ([110, 111, 110, 101] : Str)) _ rfl rfl uy9 rfl <| pkf (.bool _) rfl rfl <| agb rfl <| jt <| c_ret ?_
  exact j_z (own0 := []) (ro0 := []) (.inl rfl) rfl (hr1 Tryz.results33 (rvt (v := (.bool _)) rfl)) rfl (⟨congrArg Value.bool (by simp only [fit16]; first | (simp_all; done) | (simp_all; intros; omega)), rfl, rfl⟩)
theorem rfits_name (w : Str) (h0 : 0 < w.length) (hw : w.length ≤ 1000000) : Ct Tryz.prog 33 [strV w, .int .u8 119] [] [] (fun v o r => v = .bool (fit16 119 w) ∧ o = [] ∧ r = []) := by
 refine ct_enter Tryz.func33 rfl Tryz.ntmps33 (by kernel_rfl) rfl fun w0 => ?_
 refine csr <| agb rfl <| jt <| c_seq <| csr <| mvi rfl <| jt <| c_block <| csr <| cmp false rfl rfl rfl <| agb rfl <| jt <| c_false rfl <| csr <| cmp false rfl rfl rfl <| agb rfl <| jt <| c_false rfl <| csr <| cmp false rfl rfl rfl <| agb rfl <| jt <| c_false rfl <| csr <| cmp false rfl rfl rfl <| agb rfl <| jt <| c_false rfl <| csr <| cmp false rfl rfl rfl <| agb rfl <| jt <| c_false rfl ?_
 refine csr <| cmp false rfl rfl rfl <| agb rfl <| jt <| c_false rfl <| csr <| cmp false rfl rfl rfl <| agb rfl <| jt <| c_false rfl <| csr <| cmp false rfl rfl rfl <| agb rfl <| jt <| c_false rfl <| csr <| cmp true rfl rfl rfl <| agb rfl <| jt <| c_true rfl <| csr <| mvs rfl <| cal (rall_ct w ([] : Str) 16 (by omega) (by decide)) [] [] [] rfl rfl rfl (by kernel_rfl) impl_nil rfl ?_; rintro _ _ _ ⟨rfl, rfl, rfl⟩; refine ⟨trivial, ?_⟩
 refine agb rfl <| jt <| c_ret ?_
 exact j_z (own0 := []) (ro0 := []) (.inl rfl) rfl (hr1 Tryz.results33 (rvt (v := (.bool _)) rfl)) rfl (⟨congrArg Value.bool (all_low h0), rfl, rfl⟩)
theorem rfits_seed (w : Str) (h0 : 0 < w.length) (hw : w.length ≤ 1000000) : Ct Tryz.prog 33 [strV w, .int .u8 100] [] [] (fun v o r => v = .bool (fit16 100 w) ∧ o = [] ∧ r = []) := by
 refine ct_enter Tryz.func33 rfl Tryz.ntmps33 (by kernel_rfl) rfl fun w0 => ?_
 refine csr <| agb rfl <| jt <| c_seq <| csr <| mvi rfl <| jt <| c_block <| csr <| cmp false rfl rfl rfl <| agb rfl <| jt <| c_false rfl <| csr <| cmp true rfl rfl rfl <| agb rfl <| jt <| c_true rfl <| csr <| mvs rfl <| cal (rall_ct w ([48, 49, 50, 51, 52, 53, 54, 55, 56, 57, 45] : Str) 64 (by omega) (by decide)) [] [] [] rfl rfl rfl (by kernel_rfl) impl_nil rfl ?_; rintro _ _ _ ⟨rfl, rfl, rfl⟩; refine ⟨trivial, ?_⟩
 refine agb rfl <| jt <| c_ret ?_
 exact j_z (own0 := []) (ro0 := []) (.inl rfl) rfl (hr1 Tryz.results33 (rvt (v := (.bool _)) rfl)) rfl (⟨congrArg Value.bool (all_seed h0), rfl, rfl⟩)
theorem rfits_hex (w : Str) (h0 : 0 < w.length) (hw : w.length ≤ 1000000) : Ct Tryz.prog 33 [strV w, .int .u8 104] [] [] (fun v o r => v = .bool (fit16 104 w) ∧ o = [] ∧ r = []) := by
 refine ct_enter Tryz.func33 rfl Tryz.ntmps33 (by kernel_rfl) rfl fun w0 => ?_
 refine csr <| agb rfl <| jt <| c_seq <| csr <| mvi rfl <| jt <| c_block <| csr <| cmp false rfl rfl rfl <| agb rfl <| jt <| c_false rfl <| csr <| cmp false rfl rfl rfl <| agb rfl <| jt <| c_false rfl <| csr <| cmp true rfl rfl rfl <| agb rfl <| jt <| c_true rfl <| csr <| mvs rfl <| cal (Bytes_ct w h0 hw) [] [] [] rfl rfl rfl (by kernel_rfl) impl_nil rfl ?_; rintro _ _ _ ⟨_, _, _, rfl, rfl, rfl⟩; refine ⟨trivial, ?_⟩
 refine mv (.tuple _) rfl <| xtr (.slice _ _ _) rfl rfl <| xtr (.bool _) rfl rfl <| agl rfl <| agb rfl <| jsr <| mvb rfl <| agb rfl <| jt <| c_ret ?_
 exact j_z (own0 := []) (ro0 := []) (.inl rfl) rfl (hr1 Tryz.results33 (rvt (v := (.bool _)) rfl)) rfl (⟨rfl, rfl, rfl⟩)
theorem Form_ct (w : Str) : Ct Tryz.prog 31 [strV w] [] [] (fun v o r => v = strV ((form16 w).getD []) ∧ o = [] ∧ r = []) := by
 refine ct_enter Tryz.func31 rfl Tryz.ntmps31 (by kernel_rfl) rfl fun w0 => ?_
 refine csr <| ags rfl <| jt <| c_seq <| csr <| mvs rfl <| jt <| c_block <| csr <| scmp (a := w) (b := ([98, 101, 103, 105, 110] : Str)) _ rfl rfl uy9 rfl <| agb rfl <| jt <| c_cond rfl (fun h1 => ?_) (fun h1 => ?_)
 ·replace h1 := of_decide_eq_true h1
  refine csr <| ags rfl <| jt <| c_ret ?_
  exact j_z (own0 := []) (ro0 := []) (.inl rfl) rfl (hr1 Tryz.results31 (rvt (v := (.string _)) rfl)) rfl (⟨congrArg strV (by first | (simp only [form16]; simp_all; done) | simp_all [form16]), rfl, rfl⟩)
 ·replace h1 := of_decide_eq_false h1
  refine csr <| scmp (a := w) (b := ([115, 101, 110, 100] : Str)) _ rfl rfl uy9 rfl <| agb rfl <| jt <| c_cond rfl (fun h2 => ?_) (fun h2 => ?_)
  ·replace h2 := of_decide_eq_true h2
   refine csr <| ags rfl <| jt <| c_ret ?_
   exact j_z (own0 := []) (ro0 := []) (.inl rfl) rfl (hr1 Tryz.results31 (rvt (v := (.string _)) rfl)) rfl (⟨congrArg strV (by first | (simp only [form16]; simp_all; done) | simp_all [form16]), rfl, rfl⟩)
  ·replace h2 := of_decide_eq_false h2
   refine csr <| scmp (a := w) (b := ([98, 121, 116, 101, 115] : Str)) _ rfl rfl uy9 rfl <| agb rfl <| jt <| c_cond rfl (fun h3 => ?_) (fun h3 => ?_)
   ·replace h3 := of_decide_eq_true h3
    refine csr <| ags rfl <| jt <| c_ret ?_
    exact j_z (own0 := []) (ro0 := []) (.inl rfl) rfl (hr1 Tryz.results31 (rvt (v := (.string _)) rfl)) rfl (⟨congrArg strV (by first | (simp only [form16]; simp_all; done) | simp_all [form16]), rfl, rfl⟩)
   ·replace h3 := of_decide_eq_false h3
    refine csr <| scmp (a := w) (b := ([103, 105, 118, 101] : Str)) _ rfl rfl uy9 rfl <| agb rfl <| jt <| c_cond rfl (fun h4 => ?_) (fun h4 => ?_)
    ·replace h4 := of_decide_eq_true h4
     refine csr <| ags rfl <| jt <| c_ret ?_
     exact j_z (own0 := []) (ro0 := []) (.inl rfl) rfl (hr1 Tryz.results31 (rvt (v := (.string _)) rfl)) rfl (⟨congrArg strV (by first | (simp only [form16]; simp_all; done) | simp_all [form16]), rfl, rfl⟩)
    ·replace h4 := of_decide_eq_false h4
     refine c_seq <| csr <| scmp (a := w) (b := ([116, 117, 114, 110] : Str)) _ rfl rfl uy9 rfl <| agb rfl <| jt <| c_cond rfl (fun h5 => ?_) (fun h5 => ?_)
     ·replace h5 := of_decide_eq_true h5
      refine c_skip <| e_then <| c_cond rfl (fun h6 => ?_) (fun h6 => ?_)
      ·replace h6 := of_decide_eq_true h6
       refine csr <| ags rfl <| jt <| c_ret ?_
       exact j_z (own0 := []) (ro0 := []) (.inl rfl) rfl (hr1 Tryz.results31 (rvt (v := (.string _)) rfl)) rfl (⟨congrArg strV (by first | (simp only [form16]; simp_all; done) | simp_all [form16]), rfl, rfl⟩)
      ·replace h6 := of_decide_eq_false h6
       refine c_seq <| csr <| scmp (a := w) (b := ([106, 111, 105, 110] : Str)) _ rfl rfl uy9 rfl <| agb rfl <| jt <| c_cond rfl (fun h7 => ?_) (fun h7 => ?_)
       ·replace h7 := of_decide_eq_true h7
        refine c_skip <| e_then <| c_cond rfl (fun h8 => ?_) (fun h8 => ?_)
        ·replace h8 := of_decide_eq_true h8
         refine csr <| ags rfl <| jt <| c_ret ?_
         exact j_z (own0 := []) (ro0 := []) (.inl rfl) rfl (hr1 Tryz.results31 (rvt (v := (.string _)) rfl)) rfl (⟨congrArg strV (by first | (simp only [form16]; simp_all; done) | simp_all [form16]), rfl, rfl⟩)
        ·replace h8 := of_decide_eq_false h8
         refine csr <| scmp (a := w) (b := ([102, 111, 114, 103, 101] : Str)) _ rfl rfl uy9 rfl <| agb rfl <| jt <| c_cond rfl (fun h9 => ?_) (fun h9 => ?_)
         ·replace h9 := of_decide_eq_true h9
          refine csr <| ags rfl <| jt <| c_ret ?_
          exact j_z (own0 := []) (ro0 := []) (.inl rfl) rfl (hr1 Tryz.results31 (rvt (v := (.string _)) rfl)) rfl (⟨congrArg strV (by first | (simp only [form16]; simp_all; done) | simp_all [form16]), rfl, rfl⟩)
         ·replace h9 := of_decide_eq_false h9
          refine csr <| scmp (a := w) (b := ([102, 111, 114, 103, 101, 116] : Str)) _ rfl rfl uy9 rfl <| agb rfl <| jt <| c_cond rfl (fun h10 => ?_) (fun h10 => ?_)
          ·replace h10 := of_decide_eq_true h10
           refine csr <| ags rfl <| jt <| c_ret ?_
           exact j_z (own0 := []) (ro0 := []) (.inl rfl) rfl (hr1 Tryz.results31 (rvt (v := (.string _)) rfl)) rfl (⟨congrArg strV (by first | (simp only [form16]; simp_all; done) | simp_all [form16]), rfl, rfl⟩)
          ·replace h10 := of_decide_eq_false h10
           refine c_seq <| csr <| scmp (a := w) (b := ([101, 120, 112, 111, 114, 116] : Str)) _ rfl rfl uy9 rfl <| agb rfl <| jt <| c_cond rfl (fun h11 => ?_) (fun h11 => ?_)
           ·replace h11 := of_decide_eq_true h11
            refine c_skip <| e_then <| c_cond rfl (fun h12 => ?_) (fun h12 => ?_)
            ·replace h12 := of_decide_eq_true h12
             refine csr <| ags rfl <| jt <| c_ret ?_
             exact j_z (own0 := []) (ro0 := []) (.inl rfl) rfl (hr1 Tryz.results31 (rvt (v := (.string _)) rfl)) rfl (⟨congrArg strV (by first | (simp only [form16]; simp_all; done) | simp_all [form16]), rfl, rfl⟩)
            ·replace h12 := of_decide_eq_false h12
             refine c_seq <| csr <| scmp (a := w) (b := ([115, 97, 118, 101] : Str)) _ rfl rfl uy9 rfl <| agb rfl <| jt <| c_cond rfl (fun h13 => ?_) (fun h13 => ?_)
             ·replace h13 := of_decide_eq_true h13
              refine c_skip <| e_then <| c_cond rfl (fun h14 => ?_) (fun h14 => ?_)
              ·replace h14 := of_decide_eq_true h14
               refine csr <| ags rfl <| jt <| c_ret ?_
               exact j_z (own0 := []) (ro0 := []) (.inl rfl) rfl (hr1 Tryz.results31 (rvt (v := (.string _)) rfl)) rfl (⟨congrArg strV (by first | (simp only [form16]; simp_all; done) | simp_all [form16]), rfl, rfl⟩)
              ·replace h14 := of_decide_eq_false h14
               refine csr <| scmp (a := w) (b := ([105, 109, 112, 111, 114, 116] : Str)) _ rfl rfl uy9 rfl <| agb rfl <| jt <| c_cond rfl (fun h15 => ?_) (fun h15 => ?_)
               ·replace h15 := of_decide_eq_true h15
                refine csr <| ags rfl <| jt <| c_ret ?_
                exact j_z (own0 := []) (ro0 := []) (.inl rfl) rfl (hr1 Tryz.results31 (rvt (v := (.string _)) rfl)) rfl (⟨congrArg strV (by first | (simp only [form16]; simp_all; done) | simp_all [form16]), rfl, rfl⟩)
               ·replace h15 := of_decide_eq_false h15
                refine c_skip <| e_in <| e_then <| csr <| ags rfl <| jt <| c_ret ?_
                exact j_z (own0 := []) (ro0 := []) (.inl rfl) rfl (hr1 Tryz.results31 (rvt (v := (.string _)) rfl)) rfl (⟨congrArg strV (by first | (simp only [form16]; simp_all; done) | simp_all [form16]), rfl, rfl⟩)
             ·replace h13 := of_decide_eq_false h13
              refine c_reg <| scmp (a := w) (b := ([108, 111, 97, 100] : Str)) _ rfl rfl uy9 rfl <| agb rfl <| jt <| c_cond rfl (fun h16 => ?_) (fun h16 => ?_)
              ·replace h16 := of_decide_eq_true h16
               refine csr <| ags rfl <| jt <| c_ret ?_
               exact j_z (own0 := []) (ro0 := []) (.inl rfl) rfl (hr1 Tryz.results31 (rvt (v := (.string _)) rfl)) rfl (⟨congrArg strV (by first | (simp only [form16]; simp_all; done) | simp_all [form16]), rfl, rfl⟩)
              ·replace h16 := of_decide_eq_false h16
               refine csr <| scmp (a := w) (b := ([105, 109, 112, 111, 114, 116] : Str)) _ rfl rfl uy9 rfl <| agb rfl <| jt <| c_cond rfl (fun h17 => ?_) (fun h17 => ?_)
               ·replace h17 := of_decide_eq_true h17
                refine csr <| ags rfl <| jt <| c_ret ?_
                exact j_z (own0 := []) (ro0 := []) (.inl rfl) rfl (hr1 Tryz.results31 (rvt (v := (.string _)) rfl)) rfl (⟨congrArg strV (by first | (simp only [form16]; simp_all; done) | simp_all [form16]), rfl, rfl⟩)
               ·replace h17 := of_decide_eq_false h17
                refine c_skip <| e_in <| e_then <| csr <| ags rfl <| jt <| c_ret ?_
                exact j_z (own0 := []) (ro0 := []) (.inl rfl) rfl (hr1 Tryz.results31 (rvt (v := (.string _)) rfl)) rfl (⟨congrArg strV (by first | (simp only [form16]; simp_all; done) | simp_all [form16]), rfl, rfl⟩)
           ·replace h11 := of_decide_eq_false h11
            refine c_reg <| scmp (a := w) (b := ([108, 111, 111, 107] : Str)) _ rfl rfl uy9 rfl <| agb rfl <| jt <| c_cond rfl (fun h18 => ?_) (fun h18 => ?_)
            ·replace h18 := of_decide_eq_true h18
             refine csr <| ags rfl <| jt <| c_ret ?_
             exact j_z (own0 := []) (ro0 := []) (.inl rfl) rfl (hr1 Tryz.results31 (rvt (v := (.string _)) rfl)) rfl (⟨congrArg strV (by first | (simp only [form16]; simp_all; done) | simp_all [form16]), rfl, rfl⟩)
            ·replace h18 := of_decide_eq_false h18
             refine c_seq <| csr <| scmp (a := w) (b := ([115, 97, 118, 101] : Str)) _ rfl rfl uy9 rfl <| agb rfl <| jt <| c_cond rfl (fun h19 => ?_) (fun h19 => ?_)
             ·replace h19 := of_decide_eq_true h19
              refine c_skip <| e_then <| c_cond rfl (fun h20 => ?_) (fun h20 => ?_)
              ·replace h20 := of_decide_eq_true h20
               refine csr <| ags rfl <| jt <| c_ret ?_
               exact j_z (own0 := []) (ro0 := []) (.inl rfl) rfl (hr1 Tryz.results31 (rvt (v := (.string _)) rfl)) rfl (⟨congrArg strV (by first | (simp only [form16]; simp_all; done) | simp_all [form16]), rfl, rfl⟩)
              ·replace h20 := of_decide_eq_false h20
               refine csr <| scmp (a := w) (b := ([105, 109, 112, 111, 114, 116] : Str)) _ rfl rfl uy9 rfl <| agb rfl <| jt <| c_cond rfl (fun h21 => ?_) (fun h21 => ?_)
               ·replace h21 := of_decide_eq_true h21
                refine csr <| ags rfl <| jt <| c_ret ?_
                exact j_z (own0 := []) (ro0 := []) (.inl rfl) rfl (hr1 Tryz.results31 (rvt (v := (.string _)) rfl)) rfl (⟨congrArg strV (by first | (simp only [form16]; simp_all; done) | simp_all [form16]), rfl, rfl⟩)
               ·replace h21 := of_decide_eq_false h21
                refine c_skip <| e_in <| e_then <| csr <| ags rfl <| jt <| c_ret ?_
                exact j_z (own0 := []) (ro0 := []) (.inl rfl) rfl (hr1 Tryz.results31 (rvt (v := (.string _)) rfl)) rfl (⟨congrArg strV (by first | (simp only [form16]; simp_all; done) | simp_all [form16]), rfl, rfl⟩)
             ·replace h19 := of_decide_eq_false h19
              refine c_reg <| scmp (a := w) (b := ([108, 111, 97, 100] : Str)) _ rfl rfl uy9 rfl <| agb rfl <| jt <| c_cond rfl (fun h22 => ?_) (fun h22 => ?_)
              ·replace h22 := of_decide_eq_true h22
               refine csr <| ags rfl <| jt <| c_ret ?_
               exact j_z (own0 := []) (ro0 := []) (.inl rfl) rfl (hr1 Tryz.results31 (rvt (v := (.string _)) rfl)) rfl (⟨congrArg strV (by first | (simp only [form16]; simp_all; done) | simp_all [form16]), rfl, rfl⟩)
              ·replace h22 := of_decide_eq_false h22
               refine csr <| scmp (a := w) (b := ([105, 109, 112, 111, 114, 116] : Str)) _ rfl rfl uy9 rfl <| agb rfl <| jt <| c_cond rfl (fun h23 => ?_) (fun h23 => ?_)
               ·replace h23 := of_decide_eq_true h23
                refine csr <| ags rfl <| jt <| c_ret ?_
                exact j_z (own0 := []) (ro0 := []) (.inl rfl) rfl (hr1 Tryz.results31 (rvt (v := (.string _)) rfl)) rfl (⟨congrArg strV (by first | (simp only [form16]; simp_all; done) | simp_all [form16]), rfl, rfl⟩)
               ·replace h23 := of_decide_eq_false h23
                refine c_skip <| e_in <| e_then <| csr <| ags rfl <| jt <| c_ret ?_
                exact j_z (own0 := []) (ro0 := []) (.inl rfl) rfl (hr1 Tryz.results31 (rvt (v := (.string _)) rfl)) rfl (⟨congrArg strV (by first | (simp only [form16]; simp_all; done) | simp_all [form16]), rfl, rfl⟩)
       ·replace h7 := of_decide_eq_false h7
        refine c_reg <| scmp (a := w) (b := ([101, 120, 116, 114, 97] : Str)) _ rfl rfl uy9 rfl <| agb rfl <| jt <| c_cond rfl (fun h24 => ?_) (fun h24 => ?_)
        ·replace h24 := of_decide_eq_true h24
         refine csr <| ags rfl <| jt <| c_ret ?_
         exact j_z (own0 := []) (ro0 := []) (.inl rfl) rfl (hr1 Tryz.results31 (rvt (v := (.string _)) rfl)) rfl (⟨congrArg strV (by first | (simp only [form16]; simp_all; done) | simp_all [form16]), rfl, rfl⟩)
        ·replace h24 := of_decide_eq_false h24
         refine csr <| scmp (a := w) (b := ([102, 111, 114, 103, 101] : Str)) _ rfl rfl uy9 rfl <| agb rfl <| jt <| c_cond rfl (fun h25 => ?_) (fun h25 => ?_)
         ·replace h25 := of_decide_eq_true h25
          refine csr <| ags rfl <| jt <| c_ret ?_
          exact j_z (own0 := []) (ro0 := []) (.inl rfl) rfl (hr1 Tryz.results31 (rvt (v := (.string _)) rfl)) rfl (⟨congrArg strV (by first | (simp only [form16]; simp_all; done) | simp_all [form16]), rfl, rfl⟩)
         ·replace h25 := of_decide_eq_false h25
          refine csr <| scmp (a := w) (b := ([102, 111, 114, 103, 101, 116] : Str)) _ rfl rfl uy9 rfl <| agb rfl <| jt <| c_cond rfl (fun h26 => ?_) (fun h26 => ?_)
          ·replace h26 := of_decide_eq_true h26
           refine csr <| ags rfl <| jt <| c_ret ?_
           exact j_z (own0 := []) (ro0 := []) (.inl rfl) rfl (hr1 Tryz.results31 (rvt (v := (.string _)) rfl)) rfl (⟨congrArg strV (by first | (simp only [form16]; simp_all; done) | simp_all [form16]), rfl, rfl⟩)
          ·replace h26 := of_decide_eq_false h26
           refine c_seq <| csr <| scmp (a := w) (b := ([101, 120, 112, 111, 114, 116] : Str)) _ rfl rfl uy9 rfl <| agb rfl <| jt <| c_cond rfl (fun h27 => ?_) (fun h27 => ?_)
           ·replace h27 := of_decide_eq_true h27
            refine c_skip <| e_then <| c_cond rfl (fun h28 => ?_) (fun h28 => ?_)
            ·replace h28 := of_decide_eq_true h28
             refine csr <| ags rfl <| jt <| c_ret ?_
             exact j_z (own0 := []) (ro0 := []) (.inl rfl) rfl (hr1 Tryz.results31 (rvt (v := (.string _)) rfl)) rfl (⟨congrArg strV (by first | (simp only [form16]; simp_all; done) | simp_all [form16]), rfl, rfl⟩)
            ·replace h28 := of_decide_eq_false h28
             refine c_seq <| csr <| scmp (a := w) (b := ([115, 97, 118, 101] : Str)) _ rfl rfl uy9 rfl <| agb rfl <| jt <| c_cond rfl (fun h29 => ?_) (fun h29 => ?_)
             ·replace h29 := of_decide_eq_true h29
              refine c_skip <| e_then <| c_cond rfl (fun h30 => ?_) (fun h30 => ?_)
              ·replace h30 := of_decide_eq_true h30
               refine csr <| ags rfl <| jt <| c_ret ?_
               exact j_z (own0 := []) (ro0 := []) (.inl rfl) rfl (hr1 Tryz.results31 (rvt (v := (.string _)) rfl)) rfl (⟨congrArg strV (by first | (simp only [form16]; simp_all; done) | simp_all [form16]), rfl, rfl⟩)
              ·replace h30 := of_decide_eq_false h30
               refine csr <| scmp (a := w) (b := ([105, 109, 112, 111, 114, 116] : Str)) _ rfl rfl uy9 rfl <| agb rfl <| jt <| c_cond rfl (fun h31 => ?_) (fun h31 => ?_)
               ·replace h31 := of_decide_eq_true h31
                refine csr <| ags rfl <| jt <| c_ret ?_
                exact j_z (own0 := []) (ro0 := []) (.inl rfl) rfl (hr1 Tryz.results31 (rvt (v := (.string _)) rfl)) rfl (⟨congrArg strV (by first | (simp only [form16]; simp_all; done) | simp_all [form16]), rfl, rfl⟩)
               ·replace h31 := of_decide_eq_false h31
                refine c_skip <| e_in <| e_then <| csr <| ags rfl <| jt <| c_ret ?_
                exact j_z (own0 := []) (ro0 := []) (.inl rfl) rfl (hr1 Tryz.results31 (rvt (v := (.string _)) rfl)) rfl (⟨congrArg strV (by first | (simp only [form16]; simp_all; done) | simp_all [form16]), rfl, rfl⟩)
             ·replace h29 := of_decide_eq_false h29
              refine c_reg <| scmp (a := w) (b := ([108, 111, 97, 100] : Str)) _ rfl rfl uy9 rfl <| agb rfl <| jt <| c_cond rfl (fun h32 => ?_) (fun h32 => ?_)
              ·replace h32 := of_decide_eq_true h32
               refine csr <| ags rfl <| jt <| c_ret ?_
               exact j_z (own0 := []) (ro0 := []) (.inl rfl) rfl (hr1 Tryz.results31 (rvt (v := (.string _)) rfl)) rfl (⟨congrArg strV (by first | (simp only [form16]; simp_all; done) | simp_all [form16]), rfl, rfl⟩)
              ·replace h32 := of_decide_eq_false h32
               refine csr <| scmp (a := w) (b := ([105, 109, 112, 111, 114, 116] : Str)) _ rfl rfl uy9 rfl <| agb rfl <| jt <| c_cond rfl (fun h33 => ?_) (fun h33 => ?_)
               ·replace h33 := of_decide_eq_true h33
                refine csr <| ags rfl <| jt <| c_ret ?_
                exact j_z (own0 := []) (ro0 := []) (.inl rfl) rfl (hr1 Tryz.results31 (rvt (v := (.string _)) rfl)) rfl (⟨congrArg strV (by first | (simp only [form16]; simp_all; done) | simp_all [form16]), rfl, rfl⟩)
               ·replace h33 := of_decide_eq_false h33
                refine c_skip <| e_in <| e_then <| csr <| ags rfl <| jt <| c_ret ?_
                exact j_z (own0 := []) (ro0 := []) (.inl rfl) rfl (hr1 Tryz.results31 (rvt (v := (.string _)) rfl)) rfl (⟨congrArg strV (by first | (simp only [form16]; simp_all; done) | simp_all [form16]), rfl, rfl⟩)
           ·replace h27 := of_decide_eq_false h27
            refine c_reg <| scmp (a := w) (b := ([108, 111, 111, 107] : Str)) _ rfl rfl uy9 rfl <| agb rfl <| jt <| c_cond rfl (fun h34 => ?_) (fun h34 => ?_)
            ·replace h34 := of_decide_eq_true h34
             refine csr <| ags rfl <| jt <| c_ret ?_
             exact j_z (own0 := []) (ro0 := []) (.inl rfl) rfl (hr1 Tryz.results31 (rvt (v := (.string _)) rfl)) rfl (⟨congrArg strV (by first | (simp only [form16]; simp_all; done) | simp_all [form16]), rfl, rfl⟩)
            ·replace h34 := of_decide_eq_false h34
             refine c_seq <| csr <| scmp (a := w) (b := ([115, 97, 118, 101] : Str)) _ rfl rfl uy9 rfl <| agb rfl <| jt <| c_cond rfl (fun h35 => ?_) (fun h35 => ?_)
             ·replace h35 := of_decide_eq_true h35
              refine c_skip <| e_then <| c_cond rfl (fun h36 => ?_) (fun h36 => ?_)
              ·replace h36 := of_decide_eq_true h36
               refine csr <| ags rfl <| jt <| c_ret ?_
               exact j_z (own0 := []) (ro0 := []) (.inl rfl) rfl (hr1 Tryz.results31 (rvt (v := (.string _)) rfl)) rfl (⟨congrArg strV (by first | (simp only [form16]; simp_all; done) | simp_all [form16]), rfl, rfl⟩)
              ·replace h36 := of_decide_eq_false h36
               refine csr <| scmp (a := w) (b := ([105, 109, 112, 111, 114, 116] : Str)) _ rfl rfl uy9 rfl <| agb rfl <| jt <| c_cond rfl (fun h37 => ?_) (fun h37 => ?_)
               ·replace h37 := of_decide_eq_true h37
                refine csr <| ags rfl <| jt <| c_ret ?_
                exact j_z (own0 := []) (ro0 := []) (.inl rfl) rfl (hr1 Tryz.results31 (rvt (v := (.string _)) rfl)) rfl (⟨congrArg strV (by first | (simp only [form16]; simp_all; done) | simp_all [form16]), rfl, rfl⟩)
               ·replace h37 := of_decide_eq_false h37
                refine c_skip <| e_in <| e_then <| csr <| ags rfl <| jt <| c_ret ?_
                exact j_z (own0 := []) (ro0 := []) (.inl rfl) rfl (hr1 Tryz.results31 (rvt (v := (.string _)) rfl)) rfl (⟨congrArg strV (by first | (simp only [form16]; simp_all; done) | simp_all [form16]), rfl, rfl⟩)
             ·replace h35 := of_decide_eq_false h35
              refine c_reg <| scmp (a := w) (b := ([108, 111, 97, 100] : Str)) _ rfl rfl uy9 rfl <| agb rfl <| jt <| c_cond rfl (fun h38 => ?_) (fun h38 => ?_)
              ·replace h38 := of_decide_eq_true h38
               refine csr <| ags rfl <| jt <| c_ret ?_
               exact j_z (own0 := []) (ro0 := []) (.inl rfl) rfl (hr1 Tryz.results31 (rvt (v := (.string _)) rfl)) rfl (⟨congrArg strV (by first | (simp only [form16]; simp_all; done) | simp_all [form16]), rfl, rfl⟩)
              ·replace h38 := of_decide_eq_false h38
               refine csr <| scmp (a := w) (b := ([105, 109, 112, 111, 114, 116] : Str)) _ rfl rfl uy9 rfl <| agb rfl <| jt <| c_cond rfl (fun h39 => ?_) (fun h39 => ?_)
               ·replace h39 := of_decide_eq_true h39
                refine csr <| ags rfl <| jt <| c_ret ?_
                exact j_z (own0 := []) (ro0 := []) (.inl rfl) rfl (hr1 Tryz.results31 (rvt (v := (.string _)) rfl)) rfl (⟨congrArg strV (by first | (simp only [form16]; simp_all; done) | simp_all [form16]), rfl, rfl⟩)
               ·replace h39 := of_decide_eq_false h39
                refine c_skip <| e_in <| e_then <| csr <| ags rfl <| jt <| c_ret ?_
                exact j_z (own0 := []) (ro0 := []) (.inl rfl) rfl (hr1 Tryz.results31 (rvt (v := (.string _)) rfl)) rfl (⟨congrArg strV (by first | (simp only [form16]; simp_all; done) | simp_all [form16]), rfl, rfl⟩)
     ·replace h5 := of_decide_eq_false h5
      refine c_reg <| scmp (a := w) (b := ([99, 117, 116] : Str)) _ rfl rfl uy9 rfl <| agb rfl <| jt <| c_cond rfl (fun h40 => ?_) (fun h40 => ?_)
      ·replace h40 := of_decide_eq_true h40
       refine csr <| ags rfl <| jt <| c_ret ?_
       exact j_z (own0 := []) (ro0 := []) (.inl rfl) rfl (hr1 Tryz.results31 (rvt (v := (.string _)) rfl)) rfl (⟨congrArg strV (by first | (simp only [form16]; simp_all; done) | simp_all [form16]), rfl, rfl⟩)
      ·replace h40 := of_decide_eq_false h40
       refine c_seq <| csr <| scmp (a := w) (b := ([106, 111, 105, 110] : Str)) _ rfl rfl uy9 rfl <| agb rfl <| jt <| c_cond rfl (fun h41 => ?_) (fun h41 => ?_)
       ·replace h41 := of_decide_eq_true h41
        refine c_skip <| e_then <| c_cond rfl (fun h42 => ?_) (fun h42 => ?_)
        ·replace h42 := of_decide_eq_true h42
         refine csr <| ags rfl <| jt <| c_ret ?_
         exact j_z (own0 := []) (ro0 := []) (.inl rfl) rfl (hr1 Tryz.results31 (rvt (v := (.string _)) rfl)) rfl (⟨congrArg strV (by first | (simp only [form16]; simp_all; done) | simp_all [form16]), rfl, rfl⟩)
        ·replace h42 := of_decide_eq_false h42
         refine csr <| scmp (a := w) (b := ([102, 111, 114, 103, 101] : Str)) _ rfl rfl uy9 rfl <| agb rfl <| jt <| c_cond rfl (fun h43 => ?_) (fun h43 => ?_)
         ·replace h43 := of_decide_eq_true h43
          refine csr <| ags rfl <| jt <| c_ret ?_
          exact j_z (own0 := []) (ro0 := []) (.inl rfl) rfl (hr1 Tryz.results31 (rvt (v := (.string _)) rfl)) rfl (⟨congrArg strV (by first | (simp only [form16]; simp_all; done) | simp_all [form16]), rfl, rfl⟩)
         ·replace h43 := of_decide_eq_false h43
          refine csr <| scmp (a := w) (b := ([102, 111, 114, 103, 101, 116] : Str)) _ rfl rfl uy9 rfl <| agb rfl <| jt <| c_cond rfl (fun h44 => ?_) (fun h44 => ?_)
          ·replace h44 := of_decide_eq_true h44
           refine csr <| ags rfl <| jt <| c_ret ?_
           exact j_z (own0 := []) (ro0 := []) (.inl rfl) rfl (hr1 Tryz.results31 (rvt (v := (.string _)) rfl)) rfl (⟨congrArg strV (by first | (simp only [form16]; simp_all; done) | simp_all [form16]), rfl, rfl⟩)
          ·replace h44 := of_decide_eq_false h44
           refine c_seq <| csr <| scmp (a := w) (b := ([101, 120, 112, 111, 114, 116] : Str)) _ rfl rfl uy9 rfl <| agb rfl <| jt <| c_cond rfl (fun h45 => ?_) (fun h45 => ?_)
           ·replace h45 := of_decide_eq_true h45
            refine c_skip <| e_then <| c_cond rfl (fun h46 => ?_) (fun h46 => ?_)
            ·replace h46 := of_decide_eq_true h46
             refine csr <| ags rfl <| jt <| c_ret ?_
             exact j_z (own0 := []) (ro0 := []) (.inl rfl) rfl (hr1 Tryz.results31 (rvt (v := (.string _)) rfl)) rfl (⟨congrArg strV (by first | (simp only [form16]; simp_all; done) | simp_all [form16]), rfl, rfl⟩)
            ·replace h46 := of_decide_eq_false h46
             refine c_seq <| csr <| scmp (a := w) (b := ([115, 97, 118, 101] : Str)) _ rfl rfl uy9 rfl <| agb rfl <| jt <| c_cond rfl (fun h47 => ?_) (fun h47 => ?_)
             ·replace h47 := of_decide_eq_true h47
              refine c_skip <| e_then <| c_cond rfl (fun h48 => ?_) (fun h48 => ?_)
              ·replace h48 := of_decide_eq_true h48
               refine csr <| ags rfl <| jt <| c_ret ?_
               exact j_z (own0 := []) (ro0 := []) (.inl rfl) rfl (hr1 Tryz.results31 (rvt (v := (.string _)) rfl)) rfl (⟨congrArg strV (by first | (simp only [form16]; simp_all; done) | simp_all [form16]), rfl, rfl⟩)
              ·replace h48 := of_decide_eq_false h48
               refine csr <| scmp (a := w) (b := ([105, 109, 112, 111, 114, 116] : Str)) _ rfl rfl uy9 rfl <| agb rfl <| jt <| c_cond rfl (fun h49 => ?_) (fun h49 => ?_)
               ·replace h49 := of_decide_eq_true h49
                refine csr <| ags rfl <| jt <| c_ret ?_
                exact j_z (own0 := []) (ro0 := []) (.inl rfl) rfl (hr1 Tryz.results31 (rvt (v := (.string _)) rfl)) rfl (⟨congrArg strV (by first | (simp only [form16]; simp_all; done) | simp_all [form16]), rfl, rfl⟩)
               ·replace h49 := of_decide_eq_false h49
                refine c_skip <| e_in <| e_then <| csr <| ags rfl <| jt <| c_ret ?_
                exact j_z (own0 := []) (ro0 := []) (.inl rfl) rfl (hr1 Tryz.results31 (rvt (v := (.string _)) rfl)) rfl (⟨congrArg strV (by first | (simp only [form16]; simp_all; done) | simp_all [form16]), rfl, rfl⟩)
             ·replace h47 := of_decide_eq_false h47
              refine c_reg <| scmp (a := w) (b := ([108, 111, 97, 100] : Str)) _ rfl rfl uy9 rfl <| agb rfl <| jt <| c_cond rfl (fun h50 => ?_) (fun h50 => ?_)
              ·replace h50 := of_decide_eq_true h50
               refine csr <| ags rfl <| jt <| c_ret ?_
               exact j_z (own0 := []) (ro0 := []) (.inl rfl) rfl (hr1 Tryz.results31 (rvt (v := (.string _)) rfl)) rfl (⟨congrArg strV (by first | (simp only [form16]; simp_all; done) | simp_all [form16]), rfl, rfl⟩)
              ·replace h50 := of_decide_eq_false h50
               refine csr <| scmp (a := w) (b := ([105, 109, 112, 111, 114, 116] : Str)) _ rfl rfl uy9 rfl <| agb rfl <| jt <| c_cond rfl (fun h51 => ?_) (fun h51 => ?_)
               ·replace h51 := of_decide_eq_true h51
                refine csr <| ags rfl <| jt <| c_ret ?_
                exact j_z (own0 := []) (ro0 := []) (.inl rfl) rfl (hr1 Tryz.results31 (rvt (v := (.string _)) rfl)) rfl (⟨congrArg strV (by first | (simp only [form16]; simp_all; done) | simp_all [form16]), rfl, rfl⟩)
               ·replace h51 := of_decide_eq_false h51
                refine c_skip <| e_in <| e_then <| csr <| ags rfl <| jt <| c_ret ?_
                exact j_z (own0 := []) (ro0 := []) (.inl rfl) rfl (hr1 Tryz.results31 (rvt (v := (.string _)) rfl)) rfl (⟨congrArg strV (by first | (simp only [form16]; simp_all; done) | simp_all [form16]), rfl, rfl⟩)
           ·replace h45 := of_decide_eq_false h45
            refine c_reg <| scmp (a := w) (b := ([108, 111, 111, 107] : Str)) _ rfl rfl uy9 rfl <| agb rfl <| jt <| c_cond rfl (fun h52 => ?_) (fun h52 => ?_)
            ·replace h52 := of_decide_eq_true h52
             refine csr <| ags rfl <| jt <| c_ret ?_
             exact j_z (own0 := []) (ro0 := []) (.inl rfl) rfl (hr1 Tryz.results31 (rvt (v := (.string _)) rfl)) rfl (⟨congrArg strV (by first | (simp only [form16]; simp_all; done) | simp_all [form16]), rfl, rfl⟩)
            ·replace h52 := of_decide_eq_false h52
             refine c_seq <| csr <| scmp (a := w) (b := ([115, 97, 118, 101] : Str)) _ rfl rfl uy9 rfl <| agb rfl <| jt <| c_cond rfl (fun h53 => ?_) (fun h53 => ?_)
             ·replace h53 := of_decide_eq_true h53
              refine c_skip <| e_then <| c_cond rfl (fun h54 => ?_) (fun h54 => ?_)
              ·replace h54 := of_decide_eq_true h54
               refine csr <| ags rfl <| jt <| c_ret ?_
               exact j_z (own0 := []) (ro0 := []) (.inl rfl) rfl (hr1 Tryz.results31 (rvt (v := (.string _)) rfl)) rfl (⟨congrArg strV (by first | (simp only [form16]; simp_all; done) | simp_all [form16]), rfl, rfl⟩)
              ·replace h54 := of_decide_eq_false h54
               refine csr <| scmp (a := w) (b := ([105, 109, 112, 111, 114, 116] : Str)) _ rfl rfl uy9 rfl <| agb rfl <| jt <| c_cond rfl (fun h55 => ?_) (fun h55 => ?_)
               ·replace h55 := of_decide_eq_true h55
                refine csr <| ags rfl <| jt <| c_ret ?_
                exact j_z (own0 := []) (ro0 := []) (.inl rfl) rfl (hr1 Tryz.results31 (rvt (v := (.string _)) rfl)) rfl (⟨congrArg strV (by first | (simp only [form16]; simp_all; done) | simp_all [form16]), rfl, rfl⟩)
               ·replace h55 := of_decide_eq_false h55
                refine c_skip <| e_in <| e_then <| csr <| ags rfl <| jt <| c_ret ?_
                exact j_z (own0 := []) (ro0 := []) (.inl rfl) rfl (hr1 Tryz.results31 (rvt (v := (.string _)) rfl)) rfl (⟨congrArg strV (by first | (simp only [form16]; simp_all; done) | simp_all [form16]), rfl, rfl⟩)
             ·replace h53 := of_decide_eq_false h53
              refine c_reg <| scmp (a := w) (b := ([108, 111, 97, 100] : Str)) _ rfl rfl uy9 rfl <| agb rfl <| jt <| c_cond rfl (fun h56 => ?_) (fun h56 => ?_)
              ·replace h56 := of_decide_eq_true h56
               refine csr <| ags rfl <| jt <| c_ret ?_
               exact j_z (own0 := []) (ro0 := []) (.inl rfl) rfl (hr1 Tryz.results31 (rvt (v := (.string _)) rfl)) rfl (⟨congrArg strV (by first | (simp only [form16]; simp_all; done) | simp_all [form16]), rfl, rfl⟩)
              ·replace h56 := of_decide_eq_false h56
               refine csr <| scmp (a := w) (b := ([105, 109, 112, 111, 114, 116] : Str)) _ rfl rfl uy9 rfl <| agb rfl <| jt <| c_cond rfl (fun h57 => ?_) (fun h57 => ?_)
               ·replace h57 := of_decide_eq_true h57
                refine csr <| ags rfl <| jt <| c_ret ?_
                exact j_z (own0 := []) (ro0 := []) (.inl rfl) rfl (hr1 Tryz.results31 (rvt (v := (.string _)) rfl)) rfl (⟨congrArg strV (by first | (simp only [form16]; simp_all; done) | simp_all [form16]), rfl, rfl⟩)
               ·replace h57 := of_decide_eq_false h57
                refine c_skip <| e_in <| e_then <| csr <| ags rfl <| jt <| c_ret ?_
                exact j_z (own0 := []) (ro0 := []) (.inl rfl) rfl (hr1 Tryz.results31 (rvt (v := (.string _)) rfl)) rfl (⟨congrArg strV (by first | (simp only [form16]; simp_all; done) | simp_all [form16]), rfl, rfl⟩)
       ·replace h41 := of_decide_eq_false h41
        refine c_reg <| scmp (a := w) (b := ([101, 120, 116, 114, 97] : Str)) _ rfl rfl uy9 rfl <| agb rfl <| jt <| c_cond rfl (fun h58 => ?_) (fun h58 => ?_)
        ·replace h58 := of_decide_eq_true h58
         refine csr <| ags rfl <| jt <| c_ret ?_
         exact j_z (own0 := []) (ro0 := []) (.inl rfl) rfl (hr1 Tryz.results31 (rvt (v := (.string _)) rfl)) rfl (⟨congrArg strV (by first | (simp only [form16]; simp_all; done) | simp_all [form16]), rfl, rfl⟩)
        ·replace h58 := of_decide_eq_false h58
         refine csr <| scmp (a := w) (b := ([102, 111, 114, 103, 101] : Str)) _ rfl rfl uy9 rfl <| agb rfl <| jt <| c_cond rfl (fun h59 => ?_) (fun h59 => ?_)
         ·replace h59 := of_decide_eq_true h59
          refine csr <| ags rfl <| jt <| c_ret ?_
          exact j_z (own0 := []) (ro0 := []) (.inl rfl) rfl (hr1 Tryz.results31 (rvt (v := (.string _)) rfl)) rfl (⟨congrArg strV (by first | (simp only [form16]; simp_all; done) | simp_all [form16]), rfl, rfl⟩)
         ·replace h59 := of_decide_eq_false h59
          refine csr <| scmp (a := w) (b := ([102, 111, 114, 103, 101, 116] : Str)) _ rfl rfl uy9 rfl <| agb rfl <| jt <| c_cond rfl (fun h60 => ?_) (fun h60 => ?_)
          ·replace h60 := of_decide_eq_true h60
           refine csr <| ags rfl <| jt <| c_ret ?_
           exact j_z (own0 := []) (ro0 := []) (.inl rfl) rfl (hr1 Tryz.results31 (rvt (v := (.string _)) rfl)) rfl (⟨congrArg strV (by first | (simp only [form16]; simp_all; done) | simp_all [form16]), rfl, rfl⟩)
          ·replace h60 := of_decide_eq_false h60
           refine c_seq <| csr <| scmp (a := w) (b := ([101, 120, 112, 111, 114, 116] : Str)) _ rfl rfl uy9 rfl <| agb rfl <| jt <| c_cond rfl (fun h61 => ?_) (fun h61 => ?_)
           ·replace h61 := of_decide_eq_true h61
            refine c_skip <| e_then <| c_cond rfl (fun h62 => ?_) (fun h62 => ?_)
            ·replace h62 := of_decide_eq_true h62
             refine csr <| ags rfl <| jt <| c_ret ?_
             exact j_z (own0 := []) (ro0 := []) (.inl rfl) rfl (hr1 Tryz.results31 (rvt (v := (.string _)) rfl)) rfl (⟨congrArg strV (by first | (simp only [form16]; simp_all; done) | simp_all [form16]), rfl, rfl⟩)
            ·replace h62 := of_decide_eq_false h62
             refine c_seq <| csr <| scmp (a := w) (b := ([115, 97, 118, 101] : Str)) _ rfl rfl uy9 rfl <| agb rfl <| jt <| c_cond rfl (fun h63 => ?_) (fun h63 => ?_)
             ·replace h63 := of_decide_eq_true h63
              refine c_skip <| e_then <| c_cond rfl (fun h64 => ?_) (fun h64 => ?_)
              ·replace h64 := of_decide_eq_true h64
               refine csr <| ags rfl <| jt <| c_ret ?_
               exact j_z (own0 := []) (ro0 := []) (.inl rfl) rfl (hr1 Tryz.results31 (rvt (v := (.string _)) rfl)) rfl (⟨congrArg strV (by first | (simp only [form16]; simp_all; done) | simp_all [form16]), rfl, rfl⟩)
              ·replace h64 := of_decide_eq_false h64
               refine csr <| scmp (a := w) (b := ([105, 109, 112, 111, 114, 116] : Str)) _ rfl rfl uy9 rfl <| agb rfl <| jt <| c_cond rfl (fun h65 => ?_) (fun h65 => ?_)
               ·replace h65 := of_decide_eq_true h65
                refine csr <| ags rfl <| jt <| c_ret ?_
                exact j_z (own0 := []) (ro0 := []) (.inl rfl) rfl (hr1 Tryz.results31 (rvt (v := (.string _)) rfl)) rfl (⟨congrArg strV (by first | (simp only [form16]; simp_all; done) | simp_all [form16]), rfl, rfl⟩)
               ·replace h65 := of_decide_eq_false h65
                refine c_skip <| e_in <| e_then <| csr <| ags rfl <| jt <| c_ret ?_
                exact j_z (own0 := []) (ro0 := []) (.inl rfl) rfl (hr1 Tryz.results31 (rvt (v := (.string _)) rfl)) rfl (⟨congrArg strV (by first | (simp only [form16]; simp_all; done) | simp_all [form16]), rfl, rfl⟩)
             ·replace h63 := of_decide_eq_false h63
              refine c_reg <| scmp (a := w) (b := ([108, 111, 97, 100] : Str)) _ rfl rfl uy9 rfl <| agb rfl <| jt <| c_cond rfl (fun h66 => ?_) (fun h66 => ?_)
              ·replace h66 := of_decide_eq_true h66
               refine csr <| ags rfl <| jt <| c_ret ?_
               exact j_z (own0 := []) (ro0 := []) (.inl rfl) rfl (hr1 Tryz.results31 (rvt (v := (.string _)) rfl)) rfl (⟨congrArg strV (by first | (simp only [form16]; simp_all; done) | simp_all [form16]), rfl, rfl⟩)
              ·replace h66 := of_decide_eq_false h66
               refine csr <| scmp (a := w) (b := ([105, 109, 112, 111, 114, 116] : Str)) _ rfl rfl uy9 rfl <| agb rfl <| jt <| c_cond rfl (fun h67 => ?_) (fun h67 => ?_)
               ·replace h67 := of_decide_eq_true h67
                refine csr <| ags rfl <| jt <| c_ret ?_
                exact j_z (own0 := []) (ro0 := []) (.inl rfl) rfl (hr1 Tryz.results31 (rvt (v := (.string _)) rfl)) rfl (⟨congrArg strV (by first | (simp only [form16]; simp_all; done) | simp_all [form16]), rfl, rfl⟩)
               ·replace h67 := of_decide_eq_false h67
                refine c_skip <| e_in <| e_then <| csr <| ags rfl <| jt <| c_ret ?_
                exact j_z (own0 := []) (ro0 := []) (.inl rfl) rfl (hr1 Tryz.results31 (rvt (v := (.string _)) rfl)) rfl (⟨congrArg strV (by first | (simp only [form16]; simp_all; done) | simp_all [form16]), rfl, rfl⟩)
           ·replace h61 := of_decide_eq_false h61
            refine c_reg <| scmp (a := w) (b := ([108, 111, 111, 107] : Str)) _ rfl rfl uy9 rfl <| agb rfl <| jt <| c_cond rfl (fun h68 => ?_) (fun h68 => ?_)
            ·replace h68 := of_decide_eq_true h68
             refine csr <| ags rfl <| jt <| c_ret ?_
             exact j_z (own0 := []) (ro0 := []) (.inl rfl) rfl (hr1 Tryz.results31 (rvt (v := (.string _)) rfl)) rfl (⟨congrArg strV (by first | (simp only [form16]; simp_all; done) | simp_all [form16]), rfl, rfl⟩)
            ·replace h68 := of_decide_eq_false h68
             refine c_seq <| csr <| scmp (a := w) (b := ([115, 97, 118, 101] : Str)) _ rfl rfl uy9 rfl <| agb rfl <| jt <| c_cond rfl (fun h69 => ?_) (fun h69 => ?_)
             ·replace h69 := of_decide_eq_true h69
              refine c_skip <| e_then <| c_cond rfl (fun h70 => ?_) (fun h70 => ?_)
              ·replace h70 := of_decide_eq_true h70
               refine csr <| ags rfl <| jt <| c_ret ?_
               exact j_z (own0 := []) (ro0 := []) (.inl rfl) rfl (hr1 Tryz.results31 (rvt (v := (.string _)) rfl)) rfl (⟨congrArg strV (by first | (simp only [form16]; simp_all; done) | simp_all [form16]), rfl, rfl⟩)
              ·replace h70 := of_decide_eq_false h70
               refine csr <| scmp (a := w) (b := ([105, 109, 112, 111, 114, 116] : Str)) _ rfl rfl uy9 rfl <| agb rfl <| jt <| c_cond rfl (fun h71 => ?_) (fun h71 => ?_)
               ·replace h71 := of_decide_eq_true h71
                refine csr <| ags rfl <| jt <| c_ret ?_
                exact j_z (own0 := []) (ro0 := []) (.inl rfl) rfl (hr1 Tryz.results31 (rvt (v := (.string _)) rfl)) rfl (⟨congrArg strV (by first | (simp only [form16]; simp_all; done) | simp_all [form16]), rfl, rfl⟩)
               ·replace h71 := of_decide_eq_false h71
                refine c_skip <| e_in <| e_then <| csr <| ags rfl <| jt <| c_ret ?_
                exact j_z (own0 := []) (ro0 := []) (.inl rfl) rfl (hr1 Tryz.results31 (rvt (v := (.string _)) rfl)) rfl (⟨congrArg strV (by first | (simp only [form16]; simp_all; done) | simp_all [form16]), rfl, rfl⟩)
             ·replace h69 := of_decide_eq_false h69
              refine c_reg <| scmp (a := w) (b := ([108, 111, 97, 100] : Str)) _ rfl rfl uy9 rfl <| agb rfl <| jt <| c_cond rfl (fun h72 => ?_) (fun h72 => ?_)
              ·replace h72 := of_decide_eq_true h72
               refine csr <| ags rfl <| jt <| c_ret ?_
               exact j_z (own0 := []) (ro0 := []) (.inl rfl) rfl (hr1 Tryz.results31 (rvt (v := (.string _)) rfl)) rfl (⟨congrArg strV (by first | (simp only [form16]; simp_all; done) | simp_all [form16]), rfl, rfl⟩)
              ·replace h72 := of_decide_eq_false h72
               refine csr <| scmp (a := w) (b := ([105, 109, 112, 111, 114, 116] : Str)) _ rfl rfl uy9 rfl <| agb rfl <| jt <| c_cond rfl (fun h73 => ?_) (fun h73 => ?_)
               ·replace h73 := of_decide_eq_true h73
                refine csr <| ags rfl <| jt <| c_ret ?_
                exact j_z (own0 := []) (ro0 := []) (.inl rfl) rfl (hr1 Tryz.results31 (rvt (v := (.string _)) rfl)) rfl (⟨congrArg strV (by first | (simp only [form16]; simp_all; done) | simp_all [form16]), rfl, rfl⟩)
               ·replace h73 := of_decide_eq_false h73
                refine c_skip <| e_in <| e_then <| csr <| ags rfl <| jt <| c_ret ?_
                exact j_z (own0 := []) (ro0 := []) (.inl rfl) rfl (hr1 Tryz.results31 (rvt (v := (.string _)) rfl)) rfl (⟨congrArg strV (by first | (simp only [form16]; simp_all; done) | simp_all [form16]), rfl, rfl⟩)
end Go.Proofs.YtakbbpahfclgnaaGreatDoor
namespace Go.Proofs.YtakbbpahfclgnaaGreatDoor
open Go Go.Proofs Go.PW
open Go.PW.Enc (enc val)
theorem lay49 : ∀ fs, Tryz.prog.underlying 49 = some (.struct fs) → Lay Tryz.prog fs [(0, 1), (1, 1)] := fun fs h => by rw [Tryz.underlying49] at h; cases h; unfold Lay; kernel_rfl
theorem z49 : Zt Tryz.prog 49 (.agg ⟨cat [pt (0 : Int), pt ([] : Str)]⟩) := by unfold Zt; kernel_rfl
theorem ty49 : Ty Tryz.prog 49 2 true := ⟨by kernel_rfl, by kernel_rfl⟩
theorem by49 : (Tryz.prog.info? 49).map (·.bytes) = some 24 := by kernel_rfl
theorem idxN_is {t : Str} {c : UInt8} {k : Nat} (h : ∀ j, j < k → List.getD t j 0 ≠ c) (hk : k < t.length) (hc : List.getD t k 0 = c) : idxN t c = k := by
  have hs := idxN_spec t c
  rcases Nat.lt_trichotomy (idxN t c) k with h1 | h1 | h1
  · exact absurd (hs.2 (by omega)) (h _ h1)
  · exact h1
  · exact absurd hc (hs.1 k h1)
theorem idxN_off {t : Str} {c : UInt8} (h : ∀ j, j < t.length → List.getD t j 0 ≠ c) : ¬ idxN t c < t.length := fun hl => h _ hl ((idxN_spec t c).2 hl)
theorem lines_go {s : Str} {f i : Nat} (hf : f ≤ i) (hi : i < s.length) (h : ∀ j, f ≤ j → j < i → List.getD s j 0 ≠ 10) (hc : List.getD s i 0 = 10) : linesL (s.drop f) = List.take (i - f) (List.drop f s) :: linesL (s.drop (i + 1)) := by
  have e : idxN (s.drop f) 10 = i - f := idxN_is (fun j hj => by rw [getD_drop]; exact h _ (by omega) (by omega)) (by rw [List.length_drop]; omega) (by rw [getD_drop, show f + (i - f) = i by omega]; exact hc)
  rw [linesL_cut (by rw [e, List.length_drop]; omega), e, List.drop_drop, show f + (i - f + 1) = i + 1 by omega]
theorem lines_end {s : Str} {f : Nat} (hf : f < s.length) (h : ∀ j, f ≤ j → j < s.length → List.getD s j 0 ≠ 10) : linesL (s.drop f) = [List.drop f s] :=
  linesL_last (by rw [List.length_drop]; omega) (idxN_off fun j hj => by rw [List.length_drop] at hj; rw [getD_drop]; exact h _ (by omega) (by omega))
theorem lines_none {s : Str} {f : Nat} (hf : ¬ f < s.length) : linesL (s.drop f) = [] := linesL_nil (by rw [List.length_drop]; omega)
def toW (x : Nat × Str) : WordR := ⟨x.1, x.2⟩
def WI (s : Str) (T acc : List WordR) (i : Nat) (fr : Int) : Prop := (fr = -1 ∧ T = acc ++ (wordsL s i).map toW) ∨ (∃ f : Nat, fr = (f : Int) ∧ f < i ∧ i ≤ s.length ∧ (∀ j, f ≤ j → j < i → List.getD s j 0 ≠ 32) ∧ T = acc ++ (wordsL s f).map toW)
theorem wl_is {s : Str} {f i : Nat} (hf : f < i) (hi : i ≤ s.length) (h : ∀ j, f ≤ j → j < i → List.getD s j 0 ≠ 32) (hc : i = s.length ∨ List.getD s i 0 = 32) : wlen s f = i - f := by
  unfold wlen
  by_cases hl : i = s.length
  · have := idxN_off (t := s.drop f) (c := 32) (fun j hj => by rw [List.length_drop] at hj; rw [getD_drop]; exact h _ (by omega) (by omega))
    have h2 := idxN_le (s.drop f) 32
    rw [List.length_drop] at this h2; omega
  · exact idxN_is (fun j hj => by rw [getD_drop]; exact h _ (by omega) (by omega)) (by rw [List.length_drop]; omega) (by rw [getD_drop, show f + (i - f) = i by omega]; exact hc.resolve_left hl)
theorem words_next {s : Str} {i : Nat} (hc : i = s.length ∨ List.getD s i 0 = 32) (hi : i ≤ s.length) : wordsL s (i + 1) = wordsL s i := by
  by_cases hl : i = s.length
  · rw [wordsL_out (by omega), wordsL_out (by omega)]
  · exact wordsL_skip (by omega) (hc.resolve_left hl)
theorem WI.cut {s : Str} {T acc : List WordR} {i : Nat} {fr : Int} (h : WI s T acc i fr) (h0 : 0 ≤ fr) (hi : i ≤ s.length) (hc : i = s.length ∨ List.getD s i 0 = 32) : WI s T (acc ++ [⟨fr, List.take (i - fr.toNat) (List.drop fr.toNat s)⟩]) (i + 1) (-1) := by
  rcases h with ⟨h, _⟩ | ⟨f, rfl, hf, hi, hn, e⟩
  · omega
  · have hw := wl_is hf hi hn hc
    refine .inl ⟨rfl, ?_⟩
    rw [e, wordsL_here (by omega) (hn f (Nat.le_refl _) hf), hw, show f + (i - f) = i by omega, words_next hc hi]
    simp [toW, word, hw]
theorem WI.skip {s : Str} {T acc : List WordR} {i : Nat} {fr : Int} (h : WI s T acc i fr) (h0 : fr < 0) (hi : i ≤ s.length) (hc : i = s.length ∨ List.getD s i 0 = 32) : WI s T acc (i + 1) fr := by
  rcases h with ⟨h, e⟩ | ⟨f, rfl, _⟩
  · exact .inl ⟨h, by rw [e, words_next hc hi]⟩
  · omega
theorem WI.begin {s : Str} {T acc : List WordR} {i : Nat} {fr : Int} (h : WI s T acc i fr) (h0 : fr < 0) (hi : i < s.length) (hc : List.getD s i 0 ≠ 32) : WI s T acc (i + 1) (i : Int) := by
  rcases h with ⟨h, e⟩ | ⟨f, rfl, _⟩
  · exact .inr ⟨i, rfl, by omega, by omega, fun j h1 h2 => by rw [show j = i by omega]; exact hc, e⟩
  · omega
theorem WI.on {s : Str} {T acc : List WordR} {i : Nat} {fr : Int} (h : WI s T acc i fr) (h0 : ¬ fr < 0) (hi : i < s.length) (hc : List.getD s i 0 ≠ 32) : WI s T acc (i + 1) fr := by
  rcases h with ⟨h, e⟩ | ⟨f, rfl, hf, hi', hn, e⟩
  · omega
  · exact .inr ⟨f, rfl, by omega, by omega, fun j h1 h2 => by rcases Nat.lt_or_ge j i with h3 | h3; exact hn j h1 h3; rw [show j = i by omega]; exact hc, e⟩
theorem WI.fin {s : Str} {T acc : List WordR} {i : Nat} {fr : Int} (h : WI s T acc i fr) (hi : s.length < i) : T = acc := by
  rcases h with ⟨_, e⟩ | ⟨f, rfl, hf, hi', _, e⟩
  · rw [e, wordsL_out (by omega)]; simp
  · omega
theorem WI.lt {s : Str} {T acc : List WordR} {i : Nat} {fr : Int} (h : WI s T acc i fr) (h0 : 0 ≤ fr) : fr < (i : Int) ∧ (i : Int) ≤ (s.length : Int) := by
  rcases h with ⟨h, _⟩ | ⟨f, rfl, hf, hi, _⟩ <;> omega
theorem WI.ge {s : Str} {T acc : List WordR} {i : Nat} {fr : Int} (h : WI s T acc i fr) : -1 ≤ fr ∧ fr ≤ (s.length : Int) := by
  rcases h with ⟨h, _⟩ | ⟨f, rfl, hf, hi, _⟩ <;> omega
theorem Lines_ct (s : Str) (hs : s.length ≤ 1000000) : Ct Tryz.prog 17 [strV s] [] [] (fun v o r => ∃ o' : Ow, o'.ok (linesL s) ∧ v = .slice o'.adr (linesL s).length o'.cap ∧ o = [o'.seg (linesL s) 9] ∧ r = []) := by
 refine ct_enter Tryz.func17 rfl Tryz.ntmps17 (by kernel_rfl) rfl fun w0 => ?_
 refine csr <| agl rfl <| jsr <| agl rfl <| jsr <| agi rfl <| jt <| c_seq <| csr <| agi rfl <| jt <| c_block <| c_addE <| c_loop (σ := Nat × Nat × List Str × Ow) (fun (i, f, a, o) => i ≤ s.length ∧ f ≤ i ∧ o.ok a ∧ a.length ≤ i ∧ (∀ j, f ≤ j → j < i → List.getD s j 0 ≠ 10) ∧ linesL s = a ++ linesL (s.drop f)) (fun (i, f, a, o) => s.length - i) (fun (i, f, a, o) => [(5, .int .i64 (i : Int)), (4, .int .i64 (f : Int)), (3, .slice o.adr a.length o.cap)]) (fun (i, f, a, o) => [o.seg a 9]) (fun (i, f, a, o) => []) [3, 4, 5, 6, 7, 8, 9, 10, 11, 12, 13, 14, 15, 16, 17, 18, 19, 20, 21, 22, 23, 24] (0, 0, [], Ow.nil) (⟨Nat.zero_le _, Nat.le_refl _, Ow.nil_ok, Nat.le_refl _, (fun j h1 h2 => by omega), by simp⟩) ⟨rfl, rfl, rfl, trivial⟩ rfl rfl ?_
 rintro ⟨i, f, a, o⟩ g1 hI1
 try dsimp only at hI1 ⊢
 have HF1 := hI1.2.1
 have HA1 := hI1.2.2.2.1
 have HN1 := hI1.2.2.2.2.1
 have HE1 := hI1.2.2.2.2.2
 refine c_seq <| csr <| mvi rfl <| mvs rfl <| lenT (s := s) rfl uy9 <| cmp _ rfl rfl rfl <| jt <| c_cond rfl (fun h1 => ?_) (fun h1 => ?_)
 ·replace h1 := of_decide_eq_true h1
  refine c_skip <| e_then <| c_seq <| c_block <| csr <| mvs rfl <| mvi rfl <| idxT (s := s) i rfl rfl uy9 rfl (by first | omega | (simp; done) | (simp; omega) | (simp at *; omega)) <| equ8 (a := (List.getD s i 0)) (b := (10 : UInt8)) _ rfl rfl rfl <| jt <| c_cond rfl (fun h2 => ?_) (fun h2 => ?_)
  ·replace h2 := of_decide_eq_true h2
   refine csr <| mvl rfl <| mvs rfl <| mvi rfl <| mvi rfl <| cutT (s := s) f i rfl uy9 ⟨_, rfl⟩ ⟨_, rfl⟩ (by first | omega | (simp; done) | (simp; omega)) (by first | omega | (simp; done) | (simp; omega)) (List.take (i - f) (List.drop f s)) rfl <| bsl (α := Str) ([(List.take (i - f) (List.drop f s))]) uy37 ty9.sz rfl (by decide) z9 rfl fun b21 => ⟨trivial, ?_⟩
   refine app 0 o a ([(List.take (i - f) (List.drop f s))] : List Str) hI1.2.2.1 rfl ⟨rfl, rfl, rfl⟩ rfl rfl (gives_own (ys := ([(List.take (i - f) (List.drop f s))] : List Str)) (pre := []) (post := []) 1 rfl (by simp) rfl) uy37 uy37 (.inl ⟨_, rfl⟩) ty9.sz by9 z9 rfl (by simp; omega) rfl fun o22_1 hk22_1 => ⟨trivial, ?_⟩
   refine agl rfl <| jr <| mvi rfl <| addi rfl rfl rfl (by omega) <| agi rfl <| jn <| e_in <| e_then <| c_reg <| mvi rfl <| addi rfl rfl rfl (by omega) <| agi rfl <| jn <| e_keep [0] [1] [_] rfl (by kernel_rfl) ?_
   exact e_loop (i + 1, i + 1, (a ++ ([(List.take (i - f) (List.drop f s))] : List Str)), o22_1) (by dsimp only; exact ⟨by omega, by omega, hk22_1, by simp; omega, (fun j h1 h2 => by omega), by rw [HE1, lines_go HF1 (by omega) HN1 (by assumption)]; simp⟩) (by show s.length - (i + 1) < s.length - i; omega) (⟨rfl, rfl, rfl, trivial⟩) rfl rfl rfl
  ·replace h2 := of_decide_eq_false h2
   refine c_skip <| e_in <| e_then <| c_reg <| mvi rfl <| addi rfl rfl rfl (by omega) <| agi rfl <| jn ?_
   exact e_loop (i + 1, f, a, o) (by dsimp only; exact ⟨by omega, by omega, hI1.2.2.1, by omega, (fun j h1 h2 => by rcases Nat.lt_or_ge j i with h | h; exact HN1 j h1 h; rw [show j = i by omega]; assumption), HE1⟩) (by show s.length - (i + 1) < s.length - i; omega) (⟨rfl, rfl, rfl, trivial⟩) rfl rfl rfl
 ·replace h1 := of_decide_eq_false h1
  refine c_exit rfl <| e_then <| c_seq <| csr <| mvi rfl <| mvs rfl <| lenT (s := s) rfl uy9 <| cmp _ rfl rfl rfl <| jt <| c_cond rfl (fun h3 => ?_) (fun h3 => ?_)
  ·replace h3 := of_decide_eq_true h3
   refine c_reg <| mvl rfl <| mvs rfl <| mvi rfl <| cutT (s := s) f s.length rfl uy9 ⟨_, rfl⟩ rfl (by first | omega | (simp; done) | (simp; omega)) (by first | omega | (simp; done) | (simp; omega)) (List.drop f s) (cut_hi _ _) <| bsl (α := Str) ([(List.drop f s)]) uy37 ty9.sz rfl (by decide) z9 rfl fun b33 => ⟨trivial, ?_⟩
   refine app 0 o a ([(List.drop f s)] : List Str) hI1.2.2.1 rfl ⟨rfl, rfl, rfl⟩ rfl rfl (gives_own (ys := ([(List.drop f s)] : List Str)) (pre := []) (post := []) 1 rfl (by simp) rfl) uy37 uy37 (.inl ⟨_, rfl⟩) ty9.sz by9 z9 rfl (by simp; omega) rfl fun o34_2 hk34_2 => ⟨trivial, ?_⟩
   refine agl rfl <| jsr <| mvl rfl <| agl rfl <| jt <| c_ret ?_
   exact j_end (own0 := []) (ro0 := []) (.inl rfl) rfl (hr1 Tryz.results17 (rvt (v := (.slice _ _ _)) rfl)) [0] [1] [_] [_] [] _ rfl rfl (by kernel_rfl) rfl impl_nil (⟨o34_2, (by rw [HE1, lines_end (by omega) (fun j h1 h2 => HN1 j h1 (by omega))]; exact hk34_2), by rw [HE1, lines_end (by omega) (fun j h1 h2 => HN1 j h1 (by omega))], by rw [HE1, lines_end (by omega) (fun j h1 h2 => HN1 j h1 (by omega))], rfl⟩)
  ·replace h3 := of_decide_eq_false h3
   refine c_skip <| e_then <| csr <| mvl rfl <| agl rfl <| jt <| c_ret ?_
   exact j_end (own0 := []) (ro0 := []) (.inl rfl) rfl (hr1 Tryz.results17 (rvt (v := (.slice _ _ _)) rfl)) [0] [] [_] [] [] _ rfl rfl (by kernel_rfl) rfl impl_nil (⟨o, (by rw [HE1, lines_none (by omega), List.append_nil]; exact hI1.2.2.1), by rw [HE1, lines_none (by omega), List.append_nil], by rw [HE1, lines_none (by omega), List.append_nil], rfl⟩)
theorem Words_ct (s : Str) (hs : s.length ≤ 1000000) : Ct Tryz.prog 18 [strV s] [] [] (fun v w r => ∃ o' : Ow, o'.ok ((wordsL s 0).map toW) ∧ v = .slice o'.adr ((wordsL s 0).map toW).length o'.cap ∧ w = [o'.seg ((wordsL s 0).map toW) 49] ∧ r = []) := by
 refine ct_enter Tryz.func18 rfl Tryz.ntmps18 (by kernel_rfl) rfl fun w0 => ?_
 refine csr <| agl rfl <| jsr <| agl rfl <| jsr <| agi rfl <| jt <| c_seq <| csr <| agi rfl <| jt <| c_block <| c_addE <| c_loop (σ := Nat × Int × List WordR × Ow) (fun (i, fr, a, o) => i ≤ s.length + 1 ∧ o.ok a ∧ a.length ≤ i ∧ WI s ((wordsL s 0).map toW) a i fr) (fun (i, fr, a, o) => s.length + 1 - i) (fun (i, fr, a, o) => [(5, .int .i64 (i : Int)), (4, .int .i64 fr), (3, .slice o.adr a.length o.cap)]) (fun (i, fr, a, o) => [o.seg a 49]) (fun (i, fr, a, o) => []) [3, 4, 5, 6, 7, 8, 9, 10, 11, 12, 13, 14, 15, 16, 17, 18, 19, 20, 21, 22, 23, 24, 25, 26, 27, 28, 29, 30, 31, 32, 33, 34, 35, 36, 37, 38, 39, 40, 41, 42, 43] (0, -1, [], Ow.nil) (⟨Nat.zero_le _, Ow.nil_ok, Nat.le_refl _, .inl ⟨rfl, by simp⟩⟩) ⟨rfl, rfl, rfl, trivial⟩ rfl rfl ?_
 rintro ⟨i, fr, a, o⟩ g1 hI1
 try dsimp only at hI1 ⊢
 have HA1 := hI1.2.2.1
 have HG := hI1.2.2.2.ge
 refine c_seq <| csr <| mvi rfl <| mvs rfl <| lenT (s := s) rfl uy9 <| cmp _ rfl rfl rfl <| jt <| c_cond rfl (fun h1 => ?_) (fun h1 => ?_)
 ·replace h1 := of_decide_eq_true h1
  refine c_skip <| e_then <| c_seq <| c_block <| csr <| mvi rfl <| mvs rfl <| lenT (s := s) rfl uy9 <| cmp _ rfl rfl rfl <| mvb rfl <| jsplit 17 rfl (fun h2 => ?_) (fun h2 => ?_)
  ·replace h2 := of_decide_eq_true h2
   refine g_off rfl rfl rfl rfl <| g_off rfl rfl rfl rfl <| g_off rfl rfl rfl rfl <| g_off rfl rfl rfl rfl <| pkt (.bool _) rfl rfl <| agb rfl <| jt <| c_seq <| csr <| mvb rfl <| mvb rfl <| g_on rfl rfl rfl <| mvi rfl <| g_on rfl rfl rfl <| cmp _ rfl rfl rfl <| pkt (.bool _) rfl rfl <| jt <| c_cond rfl (fun h3 => ?_) (fun h3 => ?_)
   ·replace h3 := of_decide_eq_true h3
    refine c_seq ?_
    have HLT := hI1.2.2.2.lt (by omega)
    refine c_reg <| mvl rfl <| mvi rfl <| mvs rfl <| mvi rfl <| mvi rfl <| cutT (s := s) ((fr).toNat) i rfl uy9 ⟨_, congrArg (Value.int _) (by omega)⟩ ⟨_, rfl⟩ (by first | omega | (simp; done) | (simp; omega)) (by first | omega | (simp; done) | (simp; omega)) (List.take (i - ((fr).toNat)) (List.drop ((fr).toNat) s)) rfl <| bld [pt (0 : Int), pt ([] : Str)] [(0, pt fr), (1, pt (List.take (i - ((fr).toNat)) (List.drop ((fr).toNat) s)))] _ uy49 (lay49 _ uy49) z49 rfl rfl rfl <| bsl (α := WordR) ([(⟨fr, List.take (i - fr.toNat) (List.drop fr.toNat s)⟩ : WordR)]) uy46 ty49.sz rfl (by decide) z49 rfl fun b35 => ⟨trivial, ?_⟩
    refine app 0 o a ([(⟨fr, List.take (i - fr.toNat) (List.drop fr.toNat s)⟩ : WordR)] : List WordR) hI1.2.1 rfl ⟨rfl, rfl, rfl⟩ rfl rfl (gives_own (ys := ([(⟨fr, List.take (i - fr.toNat) (List.drop fr.toNat s)⟩ : WordR)] : List WordR)) (pre := []) (post := []) 1 rfl (by simp) rfl) uy46 uy46 (.inl ⟨_, rfl⟩) ty49.sz by49 z49 rfl (by simp; omega) rfl fun o36_1 hk36_1 => ⟨trivial, ?_⟩
    refine agl rfl <| jr <| agi rfl <| jsr <| mvb rfl <| not_ rfl <| mvb rfl <| g_off rfl rfl rfl rfl <| g_off rfl rfl rfl rfl <| pkf (.bool _) rfl rfl <| jt <| c_false rfl <| c_skip <| e_in <| e_then <| c_reg <| mvi rfl <| addi rfl rfl rfl (by omega) <| agi rfl <| jn <| e_keep [0] [1] [_] rfl (by kernel_rfl) ?_
    exact e_loop (i + 1, -1, (a ++ ([(⟨fr, List.take (i - fr.toNat) (List.drop fr.toNat s)⟩ : WordR)] : List WordR)), o36_1) (by dsimp only; exact ⟨by omega, hk36_1, by (try simp); omega, hI1.2.2.2.cut (by omega) (by omega) (by first | exact .inl (by omega) | exact .inr (by assumption))⟩) (by show s.length + 1 - (i + 1) < s.length + 1 - i; omega) (⟨rfl, rfl, rfl, trivial⟩) rfl rfl rfl
   ·replace h3 := of_decide_eq_false h3
    refine c_skip <| e_then <| csr <| mvb rfl <| not_ rfl <| mvb rfl <| g_off rfl rfl rfl rfl <| g_off rfl rfl rfl rfl <| pkf (.bool _) rfl rfl <| jt <| c_false rfl <| c_skip <| e_in <| e_then <| c_reg <| mvi rfl <| addi rfl rfl rfl (by omega) <| agi rfl <| jn ?_
    exact e_loop (i + 1, fr, a, o) (by dsimp only; exact ⟨by omega, hI1.2.1, by (try simp); omega, hI1.2.2.2.skip (by omega) (by omega) (by first | exact .inl (by omega) | exact .inr (by assumption))⟩) (by show s.length + 1 - (i + 1) < s.length + 1 - i; omega) (⟨rfl, rfl, rfl, trivial⟩) rfl rfl rfl
  ·replace h2 := of_decide_eq_false h2
   refine g_on rfl rfl rfl <| mvs rfl <| g_on rfl rfl rfl <| mvi rfl <| g_on rfl rfl rfl <| idxT (s := s) i rfl rfl uy9 rfl (by first | omega | (simp; done) | (simp; omega) | (simp at *; omega)) <| g_on rfl rfl rfl <| equ8 (a := (List.getD s i 0)) (b := (32 : UInt8)) _ rfl rfl rfl <| pkf (.bool _) rfl rfl <| agb rfl <| jt <| c_seq <| csr <| mvb rfl <| mvb rfl <| jsplit 24 rfl (fun h4 => ?_) (fun h4 => ?_)
   ·replace h4 := of_decide_eq_true h4
    refine g_on rfl rfl rfl <| mvi rfl <| g_on rfl rfl rfl <| cmp _ rfl rfl rfl <| pkt (.bool _) rfl rfl <| jt <| c_cond rfl (fun h5 => ?_) (fun h5 => ?_)
    ·replace h5 := of_decide_eq_true h5
     refine c_seq ?_
     have HLT := hI1.2.2.2.lt (by omega)
     refine c_reg <| mvl rfl <| mvi rfl <| mvs rfl <| mvi rfl <| mvi rfl <| cutT (s := s) ((fr).toNat) i rfl uy9 ⟨_, congrArg (Value.int _) (by omega)⟩ ⟨_, rfl⟩ (by first | omega | (simp; done) | (simp; omega)) (by first | omega | (simp; done) | (simp; omega)) (List.take (i - ((fr).toNat)) (List.drop ((fr).toNat) s)) rfl <| bld [pt (0 : Int), pt ([] : Str)] [(0, pt fr), (1, pt (List.take (i - ((fr).toNat)) (List.drop ((fr).toNat) s)))] _ uy49 (lay49 _ uy49) z49 rfl rfl rfl <| bsl (α := WordR) ([(⟨fr, List.take (i - fr.toNat) (List.drop fr.toNat s)⟩ : WordR)]) uy46 ty49.sz rfl (by decide) z49 rfl fun b35 => ⟨trivial, ?_⟩
     refine app 0 o a ([(⟨fr, List.take (i - fr.toNat) (List.drop fr.toNat s)⟩ : WordR)] : List WordR) hI1.2.1 rfl ⟨rfl, rfl, rfl⟩ rfl rfl (gives_own (ys := ([(⟨fr, List.take (i - fr.toNat) (List.drop fr.toNat s)⟩ : WordR)] : List WordR)) (pre := []) (post := []) 1 rfl (by simp) rfl) uy46 uy46 (.inl ⟨_, rfl⟩) ty49.sz by49 z49 rfl (by simp; omega) rfl fun o36_2 hk36_2 => ⟨trivial, ?_⟩
     refine agl rfl <| jr <| agi rfl <| jsr <| mvb rfl <| j_re 37 (.bool true) (congrArg Value.bool (decide_eq_true (by assumption))) <| not_ rfl <| mvb rfl <| g_off rfl rfl rfl rfl <| g_off rfl rfl rfl rfl <| pkf (.bool _) rfl rfl <| jt <| c_false rfl <| c_skip <| e_in <| e_then <| c_reg <| mvi rfl <| addi rfl rfl rfl (by omega) <| agi rfl <| jn <| e_keep [0] [1] [_] rfl (by kernel_rfl) ?_
     exact e_loop (i + 1, -1, (a ++ ([(⟨fr, List.take (i - fr.toNat) (List.drop fr.toNat s)⟩ : WordR)] : List WordR)), o36_2) (by dsimp only; exact ⟨by omega, hk36_2, by (try simp); omega, hI1.2.2.2.cut (by omega) (by omega) (by first | exact .inl (by omega) | exact .inr (by assumption))⟩) (by show s.length + 1 - (i + 1) < s.length + 1 - i; omega) (⟨rfl, rfl, rfl, trivial⟩) rfl rfl rfl
    ·replace h5 := of_decide_eq_false h5
     refine c_skip <| e_then <| csr <| mvb rfl <| j_re 37 (.bool true) (congrArg Value.bool (decide_eq_true (by assumption))) <| not_ rfl <| mvb rfl <| g_off rfl rfl rfl rfl <| g_off rfl rfl rfl rfl <| pkf (.bool _) rfl rfl <| jt <| c_false rfl <| c_skip <| e_in <| e_then <| c_reg <| mvi rfl <| addi rfl rfl rfl (by omega) <| agi rfl <| jn ?_
     exact e_loop (i + 1, fr, a, o) (by dsimp only; exact ⟨by omega, hI1.2.1, by (try simp); omega, hI1.2.2.2.skip (by omega) (by omega) (by first | exact .inl (by omega) | exact .inr (by assumption))⟩) (by show s.length + 1 - (i + 1) < s.length + 1 - i; omega) (⟨rfl, rfl, rfl, trivial⟩) rfl rfl rfl
   ·replace h4 := of_decide_eq_false h4
    refine g_off rfl rfl rfl rfl <| g_off rfl rfl rfl rfl <| pkf (.bool _) rfl rfl <| jt <| c_false rfl <| c_skip <| e_then <| csr <| mvb rfl <| j_re 37 (.bool false) (congrArg Value.bool (decide_eq_false (by assumption))) <| not_ rfl <| mvb rfl <| g_on rfl rfl rfl <| mvi rfl <| g_on rfl rfl rfl <| cmp _ rfl rfl rfl <| pkt (.bool _) rfl rfl <| jt <| c_cond rfl (fun h6 => ?_) (fun h6 => ?_)
    ·replace h6 := of_decide_eq_true h6
     refine c_reg <| mvi rfl <| agi rfl <| jn <| e_in <| e_then <| c_reg <| mvi rfl <| addi rfl rfl rfl (by omega) <| agi rfl <| jn ?_
     exact e_loop (i + 1, (i : Int), a, o) (by dsimp only; exact ⟨by omega, hI1.2.1, by (try simp); omega, hI1.2.2.2.begin (by omega) (by omega) (by assumption)⟩) (by show s.length + 1 - (i + 1) < s.length + 1 - i; omega) (⟨rfl, rfl, rfl, trivial⟩) rfl rfl rfl
    ·replace h6 := of_decide_eq_false h6
     refine c_skip <| e_in <| e_then <| c_reg <| mvi rfl <| addi rfl rfl rfl (by omega) <| agi rfl <| jn ?_
     exact e_loop (i + 1, fr, a, o) (by dsimp only; exact ⟨by omega, hI1.2.1, by (try simp); omega, hI1.2.2.2.on (by omega) (by omega) (by assumption)⟩) (by show s.length + 1 - (i + 1) < s.length + 1 - i; omega) (⟨rfl, rfl, rfl, trivial⟩) rfl rfl rfl
 ·replace h1 := of_decide_eq_false h1
  refine c_exit rfl <| e_then <| csr <| mvl rfl <| agl rfl <| jt <| c_ret ?_
  exact j_end (own0 := []) (ro0 := []) (.inl rfl) rfl (hr1 Tryz.results18 (rvt (v := (.slice _ _ _)) rfl)) [0] [] [_] [] [] _ rfl rfl (by kernel_rfl) rfl impl_nil (⟨o, by rw [hI1.2.2.2.fin (by omega)]; exact hI1.2.1, by rw [hI1.2.2.2.fin (by omega)], by rw [hI1.2.2.2.fin (by omega)], rfl⟩)
end Go.Proofs.YtakbbpahfclgnaaGreatDoor
namespace Go.Proofs.YtakbbpahfclgnaaGreatDoor
open Go Go.Proofs Go.PW
open Go.PW.Enc (enc val)
def forms16 : List (List UInt8) := [[118, 107, 116, 100, 111], [115, 100, 99], [115, 100, 104], [110, 115], [110, 110, 115], [110, 110, 115], [110, 104, 115], [110, 104, 115], [104, 115], [115, 110], [115], [115, 119], [115, 119], [115, 104], [115]]
def lets16 : List UInt8 := [118, 107, 116, 110, 115, 111, 119, 100, 104, 99]
theorem form_mem {w : Str} {ks : List UInt8} (h : form16 w = some ks) : ks ∈ forms16 := by
  rcases form_cases w with ⟨_, e⟩ | ⟨_, e⟩ | ⟨_, e⟩ | ⟨_, e⟩ | ⟨_, e⟩ | ⟨_, e⟩ | ⟨_, e⟩ | ⟨_, e⟩ | ⟨_, e⟩ | ⟨_, e⟩ | ⟨_, e⟩ | ⟨_, e⟩ | ⟨_, e⟩ | ⟨_, e⟩ | ⟨_, e⟩ | ⟨e, _⟩
  all_goals (rw [e] at h; cases h)
  all_goals decide
theorem forms_ok : ∀ ks ∈ forms16, ks.length ≤ 5 ∧ ks ≠ [] ∧ ∀ k ∈ ks, k ∈ lets16 := by decide
theorem form_none {w : Str} (h : (form16 w).getD [] = []) : form16 w = none := by
  cases hf : form16 w with
  | none => rfl
  | some ks => rw [hf] at h; exact absurd h (forms_ok _ (form_mem hf)).2.1
theorem form_some {w : Str} (h : ¬ (form16 w).getD [] = []) : form16 w = some ((form16 w).getD []) ∧ ((form16 w).getD []).length ≤ 5 ∧ ∀ k ∈ (form16 w).getD [], k ∈ lets16 := by
  cases hf : form16 w with
  | none => rw [hf] at h; exact absurd rfl h
  | some ks => exact ⟨rfl, (forms_ok _ (form_mem hf)).1, (forms_ok _ (form_mem hf)).2.2⟩
section
variable {fit : UInt8 → Str → Bool} {why : Nat} {s : Str} {acc : List Str} {k : UInt8} {ks : List UInt8} {x : Nat × Str} {r : List (Nat × Str)} {q : Nat}
theorem argl_cbad (hk : k = 99) (hp : parseR (s.drop x.1) = .inl q) : argsR fit why s acc (k :: ks) (x :: r) = .inl (x.1 + q, 90) := by
  obtain ⟨a, w⟩ := x; rw [argsR, if_pos hk, hp]
theorem argl_cok {y : (Con × List UInt32) × Nat} (hk : k = 99) (hp : parseR (s.drop x.1) = .inr y) : argsR fit why s acc (k :: ks) (x :: r) = .inr (acc ++ [s.drop x.1], []) := by
  obtain ⟨a, w⟩ := x; rw [argsR, if_pos hk, hp]
theorem argl_no (hk : ¬ k = 99) (hp : fit k x.2 = false) : argsR fit why s acc (k :: ks) (x :: r) = .inl (x.1, why) := by
  obtain ⟨a, w⟩ := x; rw [argsR, if_neg hk, if_neg (by rw [hp]; simp)]
theorem argl_yes (hk : ¬ k = 99) (hp : fit k x.2 = true) : argsR fit why s acc (k :: ks) (x :: r) = argsR fit why s (acc ++ [x.2]) ks r := by
  obtain ⟨a, w⟩ := x; rw [argsR, if_neg hk, if_pos hp]
end
theorem ws_at {s : Str} {x : Nat × Str} {r : List (Nat × Str)} (hw : wordsL s 0 = x :: r) {i : Nat} (hi : i < r.length) : ((wordsL s 0).map toW)[i + 1]? = some (toW (List.getD r i (0, []))) := by
  rw [hw]; simp [List.getD, hi]
theorem ws_mem {s : Str} {x : Nat × Str} {r : List (Nat × Str)} (hw : wordsL s 0 = x :: r) {i : Nat} (hi : i < r.length) : (List.getD r i (0, [])).1 < s.length ∧ 1 ≤ (List.getD r i (0, [])).2.length ∧ (List.getD r i (0, [])).1 + (List.getD r i (0, [])).2.length ≤ s.length := by
  have hm : List.getD r i (0, []) ∈ wordsL s 0 := by rw [hw, show List.getD r i (0, []) = r[i] by simp [List.getD, hi]]; exact List.mem_cons_of_mem _ (List.getElem_mem hi)
  have := wordsL_mem s.length s 0 (by omega) _ hm
  exact ⟨this.1, this.2.1, this.2.2.1⟩
theorem ws_len {s : Str} {x : Nat × Str} {r : List (Nat × Str)} (hw : wordsL s 0 = x :: r) : ((wordsL s 0).map toW).length = r.length + 1 := by rw [hw]; simp
theorem drop_g {α : Type} {l : List α} {i : Nat} (z : α) (hi : i < l.length) : l.drop i = List.getD l i z :: l.drop (i + 1) := by
  rw [List.drop_eq_getElem_cons hi]; simp [List.getD, hi]
theorem rfits_ct (w : Str) (k : UInt8) (hk : k ∈ lets16) (hc : ¬ k = 99) (h0 : 0 < w.length) (hw : w.length ≤ 1000000) : Ct Tryz.prog 33 [strV w, .int .u8 (k.toNat : Int)] [] [] (fun v o r => v = .bool (fit16 k w) ∧ o = [] ∧ r = []) := by
  simp only [lets16, List.mem_cons, List.not_mem_nil, or_false] at hk
  rcases hk with rfl | rfl | rfl | rfl | rfl | rfl | rfl | rfl | rfl | rfl
  · exact rfits_version w h0 hw
  · exact rfits_skip w h0 hw
  · exact rfits_store w h0 hw
  · exact rfits_number w h0 hw
  · exact rfits_side w h0 hw
  · exact rfits_once w h0 hw
  · exact rfits_name w h0 hw
  · exact rfits_seed w h0 hw
  · exact rfits_hex w h0 hw
  · exact absurd rfl hc
theorem getD_memK {l : List UInt8} {i : Nat} (hi : i < l.length) : List.getD l i 0 ∈ l := by simp [List.getD, hi]
theorem command_ct (s : Str) (W : Vs) (n a0 : Nat) (wd : Str) (r : List (Nat × Str)) (hW : W.ok ((wordsL s 0).map toW)) (hw : wordsL s 0 = (a0, wd) :: r) (hs : s.length ≤ 4000) (hn : n < 400) (h35 : ¬ List.getD wd 0 0 = 35) : Ct Tryz.prog 19 [strV s, .slice W.adr ((wordsL s 0).map toW).length W.cap, .int .i64 (n : Int)] [] [W.seg ((wordsL s 0).map toW), tPow10 9, tDb64 11] (fun v w q => (∃ (acc : List Str) (o' : Ow), lineR fit16 form16 ([98, 101, 103, 105, 110] : Str) 160 s n = .inr (some (wd, acc)) ∧ o'.ok acc ∧ acc.length ≤ 5 ∧ v = .tuple #[.slice o'.adr acc.length o'.cap, .int .i64 0, .int .i64 0] ∧ w = [o'.seg acc 9] ∧ q = []) ∨ (∃ (a e : Nat), lineR fit16 form16 ([98, 101, 103, 105, 110] : Str) 160 s n = .inl (a, e) ∧ 0 < e ∧ a ≤ 10000 ∧ v = .tuple #[.slice none 0 0, .int .i64 (a : Int), .int .i64 (e : Int)] ∧ w = [] ∧ q = [])) := by
 have HWL := ws_len hw
 have HW0 := wordsL_mem s.length s 0 (by omega) (a0, wd) (by rw [hw]; exact List.mem_cons_self ..)
 dsimp only at HW0
 refine ct_enter Tryz.func19 rfl Tryz.ntmps19 (by kernel_rfl) rfl fun w0 => ?_
 refine csr <| agl rfl <| agi rfl <| agi rfl <| jsr <| mvl rfl <| ixs W ((wordsL s 0).map toW) 0 hW rfl rfl rfl uy46 ty49.sz rfl (by rw [ws_len hw]; omega) <| fad rfl uy49 rfl ty9.sz <| ldvsfG 0 1 (toW (a0, wd)) _ hW rfl rfl rfl (by rw [hw]; rfl) rfl rfl ty9 <| cal (Form_ct wd) [] [] [] rfl rfl rfl (by kernel_rfl) impl_nil rfl ?_; rintro _ _ _ ⟨rfl, rfl, rfl⟩; refine ⟨trivial, ?_⟩
 refine ags rfl <| jt <| c_seq <| csr <| mvs rfl <| scmp (a := ((form16 wd).getD [])) (b := ([] : Str)) _ rfl rfl uy9 rfl <| mvb rfl <| jsplit 24 rfl (fun h1 => ?_) (fun h1 => ?_)
 ·replace h1 := of_decide_eq_true h1
  refine g_off rfl rfl rfl rfl <| g_off rfl rfl rfl rfl <| g_off rfl rfl rfl rfl <| g_off rfl rfl rfl rfl <| g_off rfl rfl rfl rfl <| g_off rfl rfl rfl rfl <| g_off rfl rfl rfl rfl <| g_off rfl rfl rfl rfl <| pkt (.bool _) rfl rfl <| jt <| c_true rfl <| c_seq <| c_dr [_, _, _] [] [(0, 0), (1, 0), (2, 0), (3, 0), (4, 0), (5, 0), (6, 0)] follows (by kernel_rfl) calm_body (keepS [0, 1, 2] rfl) <| mvl rfl <| ixs W ((wordsL s 0).map toW) 0 hW rfl rfl rfl uy46 ty49.sz rfl (by rw [ws_len hw]; omega) <| fad rfl uy49 rfl ty3.sz <| ldvsfG 0 0 (toW (a0, wd)) _ hW rfl rfl rfl (by rw [hw]; rfl) rfl rfl ty3 <| agl rfl <| agi rfl <| agi rfl <| jt <| c_ret ?_
  exact j_z (own0 := []) (ro0 := [W.seg ((wordsL s 0).map toW), tPow10 9, tDb64 11]) (.inl rfl) rfl (hr3 Tryz.results19 (rvt (v := (.slice _ _ _)) rfl) (rvt (v := (.int _ _)) rfl) (rvt (v := (.int _ _)) rfl)) rfl (.inr ⟨a0, 160, line_unknown (by omega) hw h35 (by omega) (form_none (by assumption)), by decide, by omega, rfl, rfl, rfl⟩)
 ·replace h1 := of_decide_eq_false h1
  refine g_on rfl rfl rfl <| mvl rfl <| g_on rfl rfl rfl <| ixs W ((wordsL s 0).map toW) 0 hW rfl rfl rfl uy46 ty49.sz rfl (by rw [ws_len hw]; omega) <| g_on rfl rfl rfl <| fad rfl uy49 rfl ty9.sz <| g_on rfl rfl rfl <| ldvsfG 0 1 (toW (a0, wd)) _ hW rfl rfl rfl (by rw [hw]; rfl) rfl rfl ty9 <| g_on rfl rfl rfl <| scmp (a := wd) (b := ([98, 101, 103, 105, 110] : Str)) _ rfl rfl uy9 rfl <| g_on rfl rfl rfl <| mvi rfl <| g_on rfl rfl rfl <| cmp _ rfl rfl rfl <| g_on rfl rfl rfl <| eqbo _ rfl rfl uy4 rfl <| pkf (.bool _) rfl rfl <| jt <| c_cond rfl (fun h2 => ?_) (fun h2 => ?_)
  ·refine c_seq ?_
   have HFS := form_some (w := wd) (by assumption)
   refine c_dr [_, _, _] [] [(0, 0), (1, 0), (2, 0), (3, 0), (4, 0), (5, 0), (6, 0)] follows (by kernel_rfl) calm_body (keepS [0, 1, 2] rfl) <| mvl rfl <| ixs W ((wordsL s 0).map toW) 0 hW rfl rfl rfl uy46 ty49.sz rfl (by rw [ws_len hw]; omega) <| fad rfl uy49 rfl ty3.sz <| ldvsfG 0 0 (toW (a0, wd)) _ hW rfl rfl rfl (by rw [hw]; rfl) rfl rfl ty3 <| agl rfl <| agi rfl <| agi rfl <| jt <| c_ret ?_
   exact j_z (own0 := []) (ro0 := [W.seg ((wordsL s 0).map toW), tPow10 9, tDb64 11]) (.inl rfl) rfl (hr3 Tryz.results19 (rvt (v := (.slice _ _ _)) rfl) (rvt (v := (.int _ _)) rfl) (rvt (v := (.int _ _)) rfl)) rfl (.inr ⟨a0, 160, line_place (by omega) hw h35 (by omega) HFS.1 (bne_t (by assumption)), by decide, by omega, rfl, rfl, rfl⟩)
  ·refine c_skip <| e_then <| c_seq ?_
   have HFS := form_some (w := wd) (by assumption)
   have HF5 := HFS.2.1
   refine c_reg <| agl rfl <| jt <| c_seq <| csr <| agi rfl <| jt <| c_block <| c_addE <| c_loop (σ := Nat × List Str × Ow) (fun (i, acc, o) => i ≤ ((form16 wd).getD []).length ∧ o.ok acc ∧ acc.length ≤ i ∧ i ≤ r.length ∧ argsR fit16 160 s [] ((form16 wd).getD []) r = argsR fit16 160 s acc (((form16 wd).getD []).drop i) (r.drop i)) (fun (i, acc, o) => ((form16 wd).getD []).length - i) (fun (i, acc, o) => [(11, .int .i64 (i : Int)), (10, .slice o.adr acc.length o.cap)]) (fun (i, acc, o) => [o.seg acc 9]) (fun (i, acc, o) => [W.seg ((wordsL s 0).map toW), tPow10 9, tDb64 11]) [6, 7, 8, 10, 11, 12, 13, 14, 15, 16, 38, 39, 40, 41, 42, 43, 44, 45, 46, 47, 48, 49, 50, 51, 52, 53, 54, 55, 56, 57, 58, 59, 60, 61, 62, 63, 64, 65, 66, 67, 68, 69, 70, 71, 72, 73, 74, 75, 76, 77, 78, 79, 80, 81, 82, 83, 84, 85, 86, 87, 88, 89, 90, 91, 92, 93, 94] (0, [], Ow.nil) (⟨Nat.zero_le _, Ow.nil_ok, Nat.le_refl _, Nat.zero_le _, rfl⟩) ⟨rfl, rfl, trivial⟩ rfl rfl ?_
   rintro ⟨i, acc, o⟩ g1 hI1
   try dsimp only at hI1 ⊢
   have HA1 := hI1.2.2.1
   have HIR := hI1.2.2.2.1
   have HE1 := hI1.2.2.2.2
   refine c_seq <| csr <| mvi rfl <| mvs rfl <| lenT (s := ((form16 wd).getD [])) rfl uy9 <| cmp _ rfl rfl rfl <| jt <| c_cond rfl (fun h3 => ?_) (fun h3 => ?_)
   ·replace h3 := of_decide_eq_true h3
    refine c_skip <| e_then <| c_seq <| c_block <| c_seq <| csr <| mvi rfl <| addi rfl rfl rfl (by omega) <| mvl rfl <| lenS rfl uy46 <| cmp _ rfl rfl rfl <| jt <| c_cond rfl (fun h4 => ?_) (fun h4 => ?_)
    ·replace h4 := of_decide_eq_true h4
     refine csr <| mvs rfl <| lenT (s := s) rfl uy9 <| agl rfl <| agi rfl <| agi rfl <| jt <| c_ret ?_
     exact j_d (own0 := []) (ro0 := [W.seg ((wordsL s 0).map toW), tPow10 9, tDb64 11]) (.inl rfl) rfl (hr3 Tryz.results19 (rvt (v := (.slice _ _ _)) rfl) (rvt (v := (.int _ _)) rfl) (rvt (v := (.int _ _)) rfl)) [0] [_] rfl (by kernel_rfl) rfl (.inr ⟨s.length, 160, line_bad (by omega) hw h35 (by omega) HFS.1 (bne_f (by assumption)) (HE1.trans (by rw [drop_g 0 (by omega), show List.drop i r = [] from List.drop_of_length_le (by omega)]; rfl)), by decide, by omega, rfl, rfl, rfl⟩)
    ·replace h4 := of_decide_eq_false h4
     refine c_skip <| e_then <| c_seq ?_
     have HR := ws_mem hw (i := i) (by omega)
     refine c_reg <| mvl rfl <| mvi rfl <| addi rfl rfl rfl (by omega) <| ixs W ((wordsL s 0).map toW) (i + 1) hW rfl rfl rfl uy46 ty49.sz (by omega) (by omega) <| ldvsG 1 (toW (List.getD r i (0, []))) hW rfl rfl rfl rfl (ws_at hw (by omega)) ty49 <| alo [pt (0 : Int), pt ([] : Str)] _ z49 rfl fun b12 => ⟨trivial, ?_⟩
     refine stw 1 _ [pt ((List.getD r i (0, [])).1 : Int), pt (List.getD r i (0, [])).2] rfl rfl rfl rfl ty49 ⟨trivial, ?_⟩
     refine jt <| c_seq <| csr <| mvs rfl <| mvi rfl <| idxT (s := ((form16 wd).getD [])) i rfl rfl uy9 rfl (by first | omega | (simp; done) | (simp; omega) | (simp at *; omega)) <| equ8 (a := (List.getD ((form16 wd).getD []) i 0)) (b := (99 : UInt8)) _ rfl rfl rfl <| jt <| c_cond rfl (fun h5 => ?_) (fun h5 => ?_)
     ·replace h5 := of_decide_eq_true h5
      refine csr <| mvs rfl <| fad rfl uy49 rfl ty3.sz <| ldp 1 0 _ rfl rfl rfl rfl ty3 <| cutT (s := s) ((List.getD r i (0, [])).1) s.length rfl uy9 ⟨_, rfl⟩ rfl (by first | omega | (simp; done) | (simp; omega)) (by first | omega | (simp; done) | (simp; omega)) (List.drop ((List.getD r i (0, [])).1) s) (cut_hi _ _) <| ags rfl <| jsr <| mvs rfl <| cal (RParse_ct (List.drop ((List.getD r i (0, [])).1) s) (by rw [List.length_drop]; omega)) [] [0, 1] [_, _] rfl rfl rfl (by kernel_rfl) (impl_cons (impl_at 1 rfl) (impl_cons (impl_at 2 rfl) impl_nil)) rfl ?_; rintro _ _ _ (⟨pc1, pm1, po1, pq1, hpA1, hpm1, hpo1, rfl, rfl, rfl⟩ | ⟨pq1, hpB1, rfl, rfl, rfl⟩)
      ·refine ⟨trivial, ?_⟩
       refine mv (.tuple _) rfl <| xtr (.agg _) rfl rfl <| xtr (.int _ _) rfl rfl <| xtr (.int _ _) rfl rfl <| alo [pt (0 : Int), pt ([] : Str), p1 (.slice none 0 0), pt (⟨0⟩ : F64), pt (⟨0⟩ : F64), pt (0 : UInt64), pt (zarr : (Arr UInt8 32))] _ z76 rfl fun b14 => ⟨trivial, ?_⟩
       refine stw 3 _ [pt pc1.kind, pt pc1.text, p1 (.slice po1.adr pm1.length po1.cap), pt pc1.lat, pt pc1.long, pt pc1.number, pt pc1.key] rfl rfl rfl rfl ty76 ⟨trivial, ?_⟩
       refine agi rfl <| agi rfl <| jt <| c_seq <| csr <| mvi rfl <| cmp false rfl rfl rfl <| jt <| c_false rfl <| c_skip <| e_then <| csr <| mvl rfl <| mvs rfl <| bsl (α := Str) ([(List.drop ((List.getD r i (0, [])).1) s)]) uy37 ty9.sz rfl (by decide) z9 rfl fun b79 => ⟨trivial, ?_⟩
       refine app 0 o acc ([(List.drop ((List.getD r i (0, [])).1) s)] : List Str) hI1.2.1 rfl ⟨rfl, rfl, rfl⟩ rfl rfl (gives_own (ys := ([(List.drop ((List.getD r i (0, [])).1) s)] : List Str)) (pre := []) (post := []) 4 rfl (by simp) rfl) uy37 uy37 (.inl ⟨_, rfl⟩) ty9.sz by9 z9 rfl (by simp; omega) rfl fun o80_2 hk80_2 => ⟨trivial, ?_⟩
       refine agl rfl <| agi rfl <| agi rfl <| jt <| c_ret ?_
       exact j_end (own0 := []) (ro0 := [W.seg ((wordsL s 0).map toW), tPow10 9, tDb64 11]) (.inl rfl) rfl (hr3 Tryz.results19 (rvt (v := (.slice _ _ _)) rfl) (rvt (v := (.int _ _)) rfl) (rvt (v := (.int _ _)) rfl)) [0] [1, 2, 3, 4] [_] [_, _, _, _] [] _ rfl rfl (by kernel_rfl) rfl impl_nil (.inl ⟨_, o80_2, line_ok (by omega) hw h35 (by omega) HFS.1 (bne_f (by assumption)) (HE1.trans (by rw [drop_g 0 (by omega), drop_g (0, []) (by omega)]; exact argl_cok (by assumption) hpA1)), hk80_2, by simp; omega, rfl, rfl, rfl⟩)
      ·have hpC1 := parseR_le hpB1; rw [List.length_drop] at hpC1; refine ⟨trivial, ?_⟩
       refine mv (.tuple _) rfl <| xtr (.agg _) rfl rfl <| xtr (.int _ _) rfl rfl <| xtr (.int _ _) rfl rfl <| alo [pt (0 : Int), pt ([] : Str), p1 (.slice none 0 0), pt (⟨0⟩ : F64), pt (⟨0⟩ : F64), pt (0 : UInt64), pt (zarr : (Arr UInt8 32))] _ z76 rfl fun b14 => ⟨trivial, ?_⟩
       refine stw 2 _ [pt (0 : Int), pt ([] : Str), p1 (.slice none 0 0), pt (⟨0⟩ : F64), pt (⟨0⟩ : F64), pt (0 : UInt64), pt (zarr : (Arr UInt8 32))] rfl rfl rfl rfl ty76 ⟨trivial, ?_⟩
       refine agi rfl <| agi rfl <| jt <| c_seq <| csr <| mvi rfl <| cmp true rfl rfl rfl <| jt <| c_true rfl <| c_seq <| c_dr [_, _, _, _, _, _] [] [(0, 0), (1, 0), (2, 0), (3, 0), (4, 0), (5, 0), (6, 0), (7, 0)] follows (by kernel_rfl) calm_body (keepS [0, 1, 2, 3, 4, 5] rfl) <| fad rfl uy49 rfl ty3.sz <| ldp 1 0 _ rfl rfl rfl rfl ty3 <| mvi rfl <| addi rfl rfl rfl (by omega) <| mvi rfl <| agl rfl <| agi rfl <| agi rfl <| jt <| c_ret ?_
       exact j_d (own0 := []) (ro0 := [W.seg ((wordsL s 0).map toW), tPow10 9, tDb64 11]) (.inl rfl) rfl (hr3 Tryz.results19 (rvt (v := (.slice _ _ _)) rfl) (rvt (v := (.int _ _)) rfl) (rvt (v := (.int _ _)) rfl)) [0, 1, 2] [_, _, _] rfl (by kernel_rfl) rfl (.inr ⟨_, 90, line_bad (by omega) hw h35 (by omega) HFS.1 (bne_f (by assumption)) (HE1.trans (by rw [drop_g 0 (by omega), drop_g (0, []) (by omega)]; exact argl_cbad (by assumption) hpB1)), by decide, by omega, rfl, rfl, rfl⟩)
     ·replace h5 := of_decide_eq_false h5
      refine c_skip <| e_then <| c_seq <| c_seq <| c_dr [_, _, _, _, _] [] [(0, 0), (1, 0), (2, 0), (3, 0), (4, 0), (5, 1), (6, 0)] follows (by kernel_rfl) calm_body (keepS [0, 1, 2, 3, 4] rfl) <| fad rfl uy49 rfl ty9.sz <| ldp 1 1 _ rfl rfl rfl rfl ty9 <| mvs rfl <| mvi rfl <| idxT (s := ((form16 wd).getD [])) i rfl rfl uy9 rfl (by first | omega | (simp; done) | (simp; omega) | (simp at *; omega)) <| cal (rfits_ct ((List.getD r i (0, [])).2) (List.getD ((form16 wd).getD []) i 0) (HFS.2.2 _ (getD_memK (by omega))) (by assumption) (by omega) (by omega)) [] [0, 1] [_, _] rfl rfl rfl (by kernel_rfl) impl_nil rfl ?_; rintro _ _ _ ⟨rfl, rfl, rfl⟩; refine ⟨keepI [0, 1, 2, 3, 4] rfl, ?_⟩
      refine not_ rfl <| jt <| c_cond rfl (fun h6 => ?_) (fun h6 => ?_)
      ·refine c_seq <| c_dr [_, _, _, _, _] [] [(0, 0), (1, 0), (2, 0), (3, 0), (4, 0)] follows (by kernel_rfl) calm_body (keepS [0, 1, 2, 3, 4] rfl) <| fad rfl uy49 rfl ty3.sz <| ldp 1 0 _ rfl rfl rfl rfl ty3 <| agl rfl <| agi rfl <| agi rfl <| jt <| c_ret ?_
       exact j_d (own0 := []) (ro0 := [W.seg ((wordsL s 0).map toW), tPow10 9, tDb64 11]) (.inl rfl) rfl (hr3 Tryz.results19 (rvt (v := (.slice _ _ _)) rfl) (rvt (v := (.int _ _)) rfl) (rvt (v := (.int _ _)) rfl)) [0, 1] [_, _] rfl (by kernel_rfl) rfl (.inr ⟨_, 160, line_bad (by omega) hw h35 (by omega) HFS.1 (bne_f (by assumption)) (HE1.trans (by rw [drop_g 0 (by omega), drop_g (0, []) (by omega)]; exact argl_no (by assumption) (notT (by assumption)))), by decide, by omega, rfl, rfl, rfl⟩)
      ·refine c_skip <| e_then <| c_reg <| mvl rfl <| fad rfl uy49 rfl ty9.sz <| ldp 1 1 _ rfl rfl rfl rfl ty9 <| bsl (α := Str) ([(List.getD r i (0, [])).2]) uy37 ty9.sz rfl (by decide) z9 rfl fun b93 => ⟨trivial, ?_⟩
       refine app 0 o acc ([(List.getD r i (0, [])).2] : List Str) hI1.2.1 rfl ⟨rfl, rfl, rfl⟩ rfl rfl (gives_own (ys := ([(List.getD r i (0, [])).2] : List Str)) (pre := []) (post := []) 2 rfl (by simp) rfl) uy37 uy37 (.inl ⟨_, rfl⟩) ty9.sz by9 z9 rfl (by simp; omega) rfl fun o94_3 hk94_3 => ⟨trivial, ?_⟩
       refine agl rfl <| jn <| e_in <| e_then <| c_reg <| mvi rfl <| addi rfl rfl rfl (by omega) <| agi rfl <| jn <| e_keep [0] [1, 2] [_] rfl (by kernel_rfl) ?_
       exact e_loop (i + 1, (acc ++ ([(List.getD r i (0, [])).2] : List Str)), o94_3) (by dsimp only; exact ⟨by omega, hk94_3, by (try simp); omega, by omega, HE1.trans (by rw [drop_g 0 (by omega), drop_g (0, []) (by omega)]; exact argl_yes (by assumption) (notF (by assumption)))⟩) (by show ((form16 wd).getD []).length - (i + 1) < ((form16 wd).getD []).length - i; omega) (⟨rfl, rfl, trivial⟩) rfl rfl rfl
   ·replace h3 := of_decide_eq_false h3
    refine c_exit rfl <| e_then <| c_seq <| csr <| mvl rfl <| lenS rfl uy46 <| mvs rfl <| lenT (s := ((form16 wd).getD [])) rfl uy9 <| addi rfl rfl rfl (by omega) <| cmp _ rfl rfl rfl <| jt <| c_cond rfl (fun h7 => ?_) (fun h7 => ?_)
    ·replace h7 := of_decide_eq_true h7
     refine c_seq ?_
     have HR := ws_mem hw (i := ((form16 wd).getD []).length) (by omega)
     refine c_dr [_, _, _, _] [] [(0, 0), (1, 0), (2, 0), (3, 0), (4, 0), (5, 0), (6, 0), (7, 0), (8, 0), (9, 0)] follows (by kernel_rfl) calm_body (keepS [0, 1, 2, 3] rfl) <| mvl rfl <| mvs rfl <| lenT (s := ((form16 wd).getD [])) rfl uy9 <| addi rfl rfl rfl (by omega) <| ixs W ((wordsL s 0).map toW) (((form16 wd).getD []).length + 1) hW rfl rfl rfl uy46 ty49.sz (by omega) (by omega) <| fad rfl uy49 rfl ty3.sz <| ldvsfG 1 0 (toW (List.getD r ((form16 wd).getD []).length (0, []))) _ hW rfl rfl rfl (ws_at hw (by omega)) rfl rfl ty3 <| agl rfl <| agi rfl <| agi rfl <| jt <| c_ret ?_
     exact j_d (own0 := []) (ro0 := [W.seg ((wordsL s 0).map toW), tPow10 9, tDb64 11]) (.inl rfl) rfl (hr3 Tryz.results19 (rvt (v := (.slice _ _ _)) rfl) (rvt (v := (.int _ _)) rfl) (rvt (v := (.int _ _)) rfl)) [0] [_] rfl (by kernel_rfl) rfl (.inr ⟨_, 160, line_more (by omega) hw h35 (by omega) HFS.1 (bne_f (by assumption)) (HE1.trans (by rw [show List.drop i ((form16 wd).getD []) = [] from List.drop_of_length_le (by omega), show i = ((form16 wd).getD []).length by omega, drop_g (0, []) (by omega)]; rfl)), by decide, by omega, rfl, rfl, rfl⟩)
    ·replace h7 := of_decide_eq_false h7
     refine c_skip <| e_then <| csr <| mvl rfl <| agl rfl <| agi rfl <| agi rfl <| jt <| c_ret ?_
     exact j_end (own0 := []) (ro0 := [W.seg ((wordsL s 0).map toW), tPow10 9, tDb64 11]) (.inl rfl) rfl (hr3 Tryz.results19 (rvt (v := (.slice _ _ _)) rfl) (rvt (v := (.int _ _)) rfl) (rvt (v := (.int _ _)) rfl)) [0] [] [_] [] [] _ rfl rfl (by kernel_rfl) rfl impl_nil (.inl ⟨acc, o, line_ok (by omega) hw h35 (by omega) HFS.1 (bne_f (by assumption)) (HE1.trans (by rw [show List.drop i ((form16 wd).getD []) = [] from List.drop_of_length_le (by omega), show List.drop i r = [] from List.drop_of_length_le (by omega)]; rfl)), hI1.2.1, by omega, rfl, rfl, rfl⟩)
end Go.Proofs.YtakbbpahfclgnaaGreatDoor
