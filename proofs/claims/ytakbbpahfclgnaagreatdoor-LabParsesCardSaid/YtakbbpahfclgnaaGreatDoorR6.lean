/- Laws of an engine and of the program's functions, gathered. No condition. -/
import Derived.Test.YtakbbpahfclgnaaGreatDoorR5
import Derived.Test.YtakbbpahfclgnaaGreatDoorProg
import Derived.Test.YtakbbpahfclgnaaGreatDoorRows
import Derived.WalkKit
import Derived.ProofKit
import Derived.OpenShut
import Derived.LaidHandle
import Derived.ChangeBears2
import Derived.Test.YtakbbpahfclgnaaGreatDoorTie
import Derived.Test.YtakbbpahfclgnaaGreatDoorCards
import Derived.SevenTiedAt
import Derived.ChangeMaps5
open Go.Proofs.Tryz renaming underlying3 → uy3, underlying5 → uy5, underlying9 → uy9, underlying22 → uy22, underlying24 → uy24, underlying29 → uy29, underlying37 → uy37, underlying39 → uy39, underlying40 → uy40, underlying46 → uy46, underlying49 → uy49, underlying53 → uy53, underlying93 → uy93
set_option maxRecDepth 20000
set_option maxHeartbeats 4000000
namespace Go.Proofs.YtakbbpahfclgnaaGreatDoor
open Go Go.Proofs Go.PW
open Go.PW.Enc (enc val)
theorem ty29 : Ty Tryz.prog 29 3 true := ⟨by kernel_rfl, by kernel_rfl⟩
theorem words_ne {s : Str} (h : ¬ (((wordsL s 0).map toW).length : Int) = 0) : ∃ a wd r, wordsL s 0 = (a, wd) :: r := by
  cases hw : wordsL s 0 with
  | nil => rw [hw] at h; exact absurd rfl h
  | cons x r => exact ⟨x.1, x.2, r, rfl⟩
theorem words_no {s : Str} (h : (((wordsL s 0).map toW).length : Int) = 0) : wordsL s 0 = [] := by
  cases hw : wordsL s 0 with
  | nil => rfl
  | cons x r => rw [hw] at h; simp at h; omega
theorem RefParse_ct (s : Str) (hs : s.length ≤ 140737488351232) : Ct Tryz.prog 6 [strV s] [] [tPow10 9, tDb64 11] (fun v w r => (∃ (L : List CmdO) (o' : Ow), scriptR fit16 form16 ([98, 101, 103, 105, 110] : Str) 160 s = .inr (L.map CmdO.cm) ∧ okL L ∧ o'.ok (List.map CmdO.h L) ∧ L.length ≤ 400 ∧ (∀ c ∈ L, c.args.length ≤ 5) ∧ v = .tuple #[.slice o'.adr (List.map CmdO.h L).length o'.cap, .agg ⟨cat [pt (0 : Int), pt (0 : Int), pt (0 : Int)]⟩] ∧ w = [o'.seg (List.map CmdO.h L) 39, argsS 9 L] ∧ r = []) ∨ (∃ (l a e : Nat), scriptR fit16 form16 ([98, 101, 103, 105, 110] : Str) 160 s = .inl (l, a, e) ∧ 0 < e ∧ v = .tuple #[.slice none 0 0, .agg ⟨cat [pt (l : Int), pt (a : Int), pt (e : Int)]⟩] ∧ w = [] ∧ r = [])) := by
 have HLI : (linesL s).length ≤ s.length := linesL_len _ s (Nat.le_refl _)
 refine ct_enter Tryz.func6 rfl Tryz.ntmps6 (by kernel_rfl) rfl fun w0 => ?_
 refine csr <| agl rfl <| alo [pt (0 : Int), pt (0 : Int), pt (0 : Int)] _ z29 rfl fun b3 => ⟨trivial, ?_⟩
 refine jt <| c_seq <| csr <| mvs rfl <| lenT (s := s) rfl uy9 <| cmp _ rfl rfl rfl <| jt <| c_cond rfl (fun h1 => ?_) (fun h1 => ?_)
 ·replace h1 := of_decide_eq_true h1
  refine csr <| bld [pt (0 : Int), pt (0 : Int), pt (0 : Int)] [(2, pt (2 : Int))] _ uy29 (lay29 _ uy29) z29 rfl rfl rfl <| agl rfl <| stw 0 _ [pt (0 : Int), pt (0 : Int), pt (2 : Int)] rfl rfl rfl rfl ty29 ⟨trivial, ?_⟩
  refine jt <| c_ret ?_
  exact j_d (own0 := []) (ro0 := [tPow10 9, tDb64 11]) (.inl rfl) rfl (hr2 Tryz.results6 (rvt (v := (.slice _ _ _)) rfl) (rvc (p := pa [pt (0 : Int), pt (0 : Int), pt (2 : Int)]) 0 rfl rfl rfl ty29)) [0] [_] rfl (by kernel_rfl) rfl (.inr ⟨0, 0, 2, scriptR_long (by omega), by decide, rfl, rfl, rfl⟩)
 ·replace h1 := of_decide_eq_false h1
  refine c_skip <| e_then <| csr <| agl rfl <| jsr <| mvs rfl <| cal (Lines_ct s (by omega)) [] [0] [_] rfl rfl rfl (by kernel_rfl) impl_nil rfl ?_; rintro _ _ _ ⟨ol, hol, rfl, rfl, rfl⟩; refine ⟨trivial, ?_⟩
  refine agl rfl <| jt <| c_seq <| csr <| agi rfl <| jt <| c_block <| c_addE <| c_addE <| c_loop (σ := Nat × List CmdO × Ow) (fun (i, L, o) => i ≤ (linesL s).length ∧ okL L ∧ o.ok (List.map CmdO.h L) ∧ L.length ≤ 400 ∧ (∀ c ∈ L, c.args.length ≤ 5) ∧ scriptL fit16 form16 ([98, 101, 103, 105, 110] : Str) 160 (linesL s) 0 [] = scriptL fit16 form16 ([98, 101, 103, 105, 110] : Str) 160 (List.drop i (linesL s)) i (List.map CmdO.cm L)) (fun (i, L, o) => (linesL s).length - i) (fun (i, L, o) => [(6, .int .i64 (i : Int)), (4, .slice o.adr (List.map CmdO.h L).length o.cap)]) (fun (i, L, o) => [[(b3, .cells (cat [pt (0 : Int), pt (0 : Int), pt (0 : Int)]) 29)], ol.seg (linesL s) 9, o.seg (List.map CmdO.h L) 39, argsS 9 L]) (fun (i, L, o) => [tPow10 9, tDb64 11]) [2, 4, 6, 7, 8, 9, 10, 17, 18, 19, 20, 21, 22, 23, 24, 25, 26, 27, 28, 29, 30, 31, 32, 33, 34, 35, 36, 37, 38, 39, 40, 41, 42, 43, 44, 45, 46, 47, 48, 49, 50, 51, 52, 53, 54, 55, 56, 57, 58, 59, 60, 61, 62, 63, 64, 65, 66, 67, 68, 69, 70, 71, 72, 73, 74, 75, 76, 77, 78, 79, 80, 81, 82, 83] (0, [], Ow.nil) (⟨Nat.zero_le _, (fun c hc => by cases hc), Ow.nil_ok, Nat.zero_le _, (fun c hc => by cases hc), rfl⟩) ⟨rfl, rfl, trivial⟩ rfl rfl ?_
  rintro ⟨i, L, o⟩ g1 hI1
  try dsimp only at hI1 ⊢
  have HL4 := hI1.2.2.2.1
  have HSC := hI1.2.2.2.2.2
  refine c_seq <| csr <| mvi rfl <| mvl rfl <| lenS rfl uy37 <| cmp _ rfl rfl rfl <| jt <| c_cond rfl (fun h2 => ?_) (fun h2 => ?_)
  ·replace h2 := of_decide_eq_true h2
   refine c_skip <| e_then <| c_seq <| c_block <| c_seq <| c_seq ?_
   have HGL := getD_line (s := s) (i := i) (by omega)
   refine c_reg <| mvl rfl <| mvi rfl <| ixs ((ol).vs) (linesL s) i (Ow.vs_ok hol) rfl rfl rfl uy37 ty9.sz rfl (by first | omega | (simp; done) | (simp; omega) | (simp at *; omega)) <| ldsoG 1 (List.getD (linesL s) i []) hol rfl rfl rfl rfl (getD_some (by first | omega | (simp; done) | (simp; omega) | (simp at *; omega))) ty9 <| lenT (s := (List.getD (linesL s) i [])) rfl uy9 <| cmp _ rfl rfl rfl <| jt <| c_cond rfl (fun h3 => ?_) (fun h3 => ?_)
   ·replace h3 := of_decide_eq_true h3
    refine csr <| mvi rfl <| addi rfl rfl rfl (by omega) <| bld [pt (0 : Int), pt (0 : Int), pt (0 : Int)] [(0, p1 (.int .i64 ((i : Int) + 1))), (1, pt (4000 : Int)), (2, pt (2 : Int))] _ uy29 (lay29 _ uy29) z29 rfl rfl rfl <| agl rfl <| stw 0 _ [p1 (.int .i64 ((i : Int) + 1)), pt (4000 : Int), pt (2 : Int)] rfl rfl rfl rfl ty29 ⟨trivial, ?_⟩
    refine jt <| c_ret ?_
    exact j_d (own0 := []) (ro0 := [tPow10 9, tDb64 11]) (.inl rfl) rfl (hr2 Tryz.results6 (rvt (v := (.slice _ _ _)) rfl) (rvc (p := pa [p1 (.int .i64 ((i : Int) + 1)), pt (4000 : Int), pt (2 : Int)]) 0 rfl rfl rfl ty29)) [0, 1, 2, 3] [_, _, _, _] rfl (by kernel_rfl) rfl (.inr ⟨i + 1, 4000, 2, (scriptR_in (by omega)).trans (HSC.trans (script_bad (by omega) (line_long (by omega)))), by first | decide | omega, rfl, rfl, rfl⟩)
   ·replace h3 := of_decide_eq_false h3
    refine c_skip <| e_then <| csr <| mvl rfl <| mvi rfl <| ixs ((ol).vs) (linesL s) i (Ow.vs_ok hol) rfl rfl rfl uy37 ty9.sz rfl (by first | omega | (simp; done) | (simp; omega) | (simp at *; omega)) <| ldsoG 1 (List.getD (linesL s) i []) hol rfl rfl rfl rfl (getD_some (by first | omega | (simp; done) | (simp; omega) | (simp at *; omega))) ty9 <| cal (Words_ct (List.getD (linesL s) i []) (by omega)) [] [0, 1, 2, 3] [_, _, _, _] rfl rfl rfl (by kernel_rfl) impl_nil rfl ?_; rintro _ _ _ ⟨ow1, how1, rfl, rfl, rfl⟩; refine ⟨trivial, ?_⟩
    refine agl rfl <| jt <| c_seq <| csr <| mvl rfl <| lenS rfl uy46 <| cmp _ rfl rfl rfl <| mvb rfl <| jsplit 40 rfl (fun h4 => ?_) (fun h4 => ?_)
    ·replace h4 := of_decide_eq_true h4
     refine g_off rfl rfl rfl rfl <| g_off rfl rfl rfl rfl <| g_off rfl rfl rfl rfl <| g_off rfl rfl rfl rfl <| g_off rfl rfl rfl rfl <| g_off rfl rfl rfl rfl <| pkt (.bool _) rfl rfl <| jt <| c_true rfl <| c_exit rfl <| e_then <| c_reg <| mvi rfl <| addi rfl rfl rfl (by omega) <| agi rfl <| jn <| e_keep [0, 1, 2, 3] [4] [_, _, _, _] rfl (by kernel_rfl) ?_
     exact e_loop (i + 1, L, o) (⟨by omega, hI1.2.1, hI1.2.2.1, hI1.2.2.2.1, hI1.2.2.2.2.1, HSC.trans (script_none (by omega) (line_blank (by omega) (words_no (by omega))))⟩) (by show (linesL s).length - (i + 1) < (linesL s).length - i; omega) (⟨rfl, rfl, trivial⟩) rfl rfl rfl
    ·replace h4 := of_decide_eq_false h4
     refine g_on rfl rfl rfl <| mvl rfl ?_
     obtain ⟨a0, wd, r, hw⟩ := words_ne (s := (List.getD (linesL s) i [])) (by omega)
     have HWM := wordsL_mem _ (List.getD (linesL s) i []) 0 (Nat.le_refl _) (a0, wd) (by rw [hw]; exact List.mem_cons_self ..)
     dsimp only at HWM
     refine g_on rfl rfl rfl <| ixs ((ow1).vs) ((wordsL (List.getD (linesL s) i []) 0).map toW) 0 (Ow.vs_ok how1) rfl rfl rfl uy46 ty49.sz rfl (by rw [ws_len hw]; omega) <| g_on rfl rfl rfl <| fad rfl uy49 rfl ty9.sz <| g_on rfl rfl rfl <| ldsofG 4 1 (toW (a0, wd)) _ how1 rfl rfl rfl (by rw [hw]; rfl) rfl rfl ty9 <| g_on rfl rfl rfl <| idxT (s := wd) 0 rfl rfl uy9 rfl (by first | omega | (simp; done) | (simp; omega) | (simp at *; omega)) <| g_on rfl rfl rfl <| equ8 (a := (List.getD wd 0 0)) (b := (35 : UInt8)) _ rfl rfl rfl <| pkf (.bool _) rfl rfl <| jt <| c_cond rfl (fun h5 => ?_) (fun h5 => ?_)
     ·replace h5 := of_decide_eq_true h5
      refine c_exit rfl <| e_then <| c_reg <| mvi rfl <| addi rfl rfl rfl (by omega) <| agi rfl <| jn <| e_keep [0, 1, 2, 3] [4] [_, _, _, _] rfl (by kernel_rfl) ?_
      exact e_loop (i + 1, L, o) (⟨by omega, hI1.2.1, hI1.2.2.1, hI1.2.2.2.1, hI1.2.2.2.2.1, HSC.trans (script_none (by omega) (line_note (by omega) hw (by assumption)))⟩) (by show (linesL s).length - (i + 1) < (linesL s).length - i; omega) (⟨rfl, rfl, trivial⟩) rfl rfl rfl
     ·replace h5 := of_decide_eq_false h5
      refine c_skip <| e_then <| c_seq <| csr <| mvl rfl <| lenS rfl uy22 <| j_re 49 (.int .i64 (L.length : Int)) (congrArg (fun n : Nat => Value.int .i64 (n : Int)) (List.length_map ..)) <| cmp _ rfl rfl rfl <| jt <| c_cond rfl (fun h6 => ?_) (fun h6 => ?_)
      ·replace h6 := of_decide_eq_true h6
       refine csr <| mvi rfl <| addi rfl rfl rfl (by omega) <| bld [pt (0 : Int), pt (0 : Int), pt (0 : Int)] [(0, p1 (.int .i64 ((i : Int) + 1))), (2, pt (2 : Int))] _ uy29 (lay29 _ uy29) z29 rfl rfl rfl <| agl rfl <| stw 0 _ [p1 (.int .i64 ((i : Int) + 1)), pt (0 : Int), pt (2 : Int)] rfl rfl rfl rfl ty29 ⟨trivial, ?_⟩
       refine jt <| c_ret ?_
       exact j_d (own0 := []) (ro0 := [tPow10 9, tDb64 11]) (.inl rfl) rfl (hr2 Tryz.results6 (rvt (v := (.slice _ _ _)) rfl) (rvc (p := pa [p1 (.int .i64 ((i : Int) + 1)), pt (0 : Int), pt (2 : Int)]) 0 rfl rfl rfl ty29)) [0, 1, 2, 3, 4] [_, _, _, _, _] rfl (by kernel_rfl) rfl (.inr ⟨i + 1, 0, 2, (scriptR_in (by omega)).trans (HSC.trans (script_bad (by omega) (line_many (by omega) hw (by assumption) (by rw [List.length_map]; omega)))), by first | decide | omega, rfl, rfl, rfl⟩)
      ·replace h6 := of_decide_eq_false h6
       refine c_skip <| e_then <| csr <| mvl rfl <| mvi rfl <| ixs ((ol).vs) (linesL s) i (Ow.vs_ok hol) rfl rfl rfl uy37 ty9.sz rfl (by first | omega | (simp; done) | (simp; omega) | (simp at *; omega)) <| ldsoG 1 (List.getD (linesL s) i []) hol rfl rfl rfl rfl (getD_some (by first | omega | (simp; done) | (simp; omega) | (simp at *; omega))) ty9 <| mvl rfl <| mvl rfl <| lenS rfl uy22 <| j_re 61 (.int .i64 (L.length : Int)) (congrArg (fun n : Nat => Value.int .i64 (n : Int)) (List.length_map ..)) <| cal (command_ct (List.getD (linesL s) i []) ((ow1).vs) L.length a0 wd r (Ow.vs_ok how1) hw (by omega) (by omega) (by assumption)) [] [0, 1, 2, 3, 4] [_, _, _, _, _] rfl rfl rfl (by kernel_rfl) (impl_cons (ow_impl 6 rfl) (impl_cons (impl_at 0 rfl) (impl_cons (impl_at 1 rfl) impl_nil))) rfl ?_; rintro _ _ _ (⟨cacc2, co2, hcl2, hco2, hcn2, rfl, rfl, rfl⟩ | ⟨ca2, ce2, hcl2, hcp2, hcb2, rfl, rfl, rfl⟩)
       ·refine ⟨trivial, ?_⟩
        refine mv (.tuple _) rfl <| xtr (.slice _ _ _) rfl rfl <| xtr (.int _ _) rfl rfl <| xtr (.int _ _) rfl rfl <| agl rfl <| agi rfl <| agi rfl <| jt <| c_seq <| csr <| mvi rfl <| cmp false rfl rfl rfl <| jt <| c_false rfl <| c_skip <| e_then <| c_reg <| mvl rfl <| mvi rfl <| addi rfl rfl rfl (by omega) <| mvl rfl <| ixs ((ow1).vs) ((wordsL (List.getD (linesL s) i []) 0).map toW) 0 (Ow.vs_ok how1) rfl rfl rfl uy46 ty49.sz rfl (by rw [ws_len hw]; omega) <| fad rfl uy49 rfl ty9.sz <| ldsofG 4 1 (toW (a0, wd)) _ how1 rfl rfl rfl (by rw [hw]; rfl) rfl rfl ty9 <| mvl rfl <| bld [pt (0 : Int), pt ([] : Str), p1 (.slice none 0 0)] [(0, p1 (.int .i64 ((i : Int) + 1))), (1, pt wd), (2, p1 (.slice co2.adr cacc2.length co2.cap))] _ uy39 (lay39 _ uy39) z39 rfl rfl rfl <| bsl (α := CmdH) ([CmdO.h ⟨i + 1, wd, cacc2, co2⟩]) uy22 ty39.sz rfl (by decide) z39 rfl fun b82 => ⟨trivial, ?_⟩
        refine app 2 o (List.map CmdO.h L) ([CmdO.h ⟨i + 1, wd, cacc2, co2⟩] : List CmdH) hI1.2.2.1 rfl ⟨rfl, rfl, rfl⟩ rfl rfl (gives_own (ys := ([CmdO.h ⟨i + 1, wd, cacc2, co2⟩] : List CmdH)) (pre := []) (post := []) 6 rfl (by simp) rfl) uy22 uy22 (.inl ⟨_, rfl⟩) ty39.sz by39 z39 rfl (by simp; omega) rfl fun o83_3 hk83_3 => ⟨trivial, ?_⟩
        refine agl rfl <| jn <| e_in <| e_then <| c_keep [0, 1, 2, 3, 5] [4, 6] [_, _, _, _, _] rfl (by kernel_rfl) <| c_part (own' := [[(b3, .cells (cat [pt (0 : Int), pt (0 : Int), pt (0 : Int)]) 29)], ol.seg (linesL s) 9, o83_3.seg ((List.map CmdO.h L) ++ ([CmdO.h ⟨i + 1, wd, cacc2, co2⟩] : List CmdH)) 39, argsS 9 (L ++ [⟨i + 1, wd, cacc2, co2⟩])]) (List.Perm.of_eq (by rw [argsS_app]; simp)) <| c_reg <| mvi rfl <| addi rfl rfl rfl (by omega) <| agi rfl <| jn ?_
        exact e_loop (i + 1, L ++ [⟨i + 1, wd, cacc2, co2⟩], o83_3) (⟨by omega, okL_app hI1.2.1 hco2, (by rw [List.map_append]; exact hk83_3), (by simp; omega), (fun c hc => by rcases List.mem_append.1 hc with hc | hc; exact hI1.2.2.2.2.1 c hc; rw [List.mem_singleton] at hc; subst hc; exact hcn2), HSC.trans ((script_cmd (by omega) (by rw [List.length_map]; exact hcl2)).trans (by rw [List.map_append]; rfl))⟩) (by show (linesL s).length - (i + 1) < (linesL s).length - i; omega) (⟨rfl, (by rw [List.map_append]; rfl), trivial⟩) rfl (by rw [List.map_append]; rfl) rfl
       ·have hnz2 : ((ce2 : Nat) : Int) ≠ 0 := (by omega); refine ⟨trivial, ?_⟩
        refine mv (.tuple _) rfl <| xtr (.slice _ _ _) rfl rfl <| xtr (.int _ _) rfl rfl <| xtr (.int _ _) rfl rfl <| agl rfl <| agi rfl <| agi rfl <| jt <| c_seq <| csr <| mvi rfl <| cmp true rfl rfl (by simp only [cmpV, hnz2]; simp) <| jt <| c_true rfl <| csr <| mvi rfl <| addi rfl rfl rfl (by omega) <| mvi rfl <| mvi rfl <| bld [pt (0 : Int), pt (0 : Int), pt (0 : Int)] [(0, p1 (.int .i64 ((i : Int) + 1))), (1, p1 (.int .i64 (ca2 : Int))), (2, p1 (.int .i64 ((ce2 : Nat) : Int)))] _ uy29 (lay29 _ uy29) z29 rfl rfl rfl <| agl rfl <| stw 0 _ [p1 (.int .i64 ((i : Int) + 1)), p1 (.int .i64 (ca2 : Int)), p1 (.int .i64 ((ce2 : Nat) : Int))] rfl rfl rfl rfl ty29 ⟨trivial, ?_⟩
        refine jt <| c_ret ?_
        exact j_d (own0 := []) (ro0 := [tPow10 9, tDb64 11]) (.inl rfl) rfl (hr2 Tryz.results6 (rvt (v := (.slice _ _ _)) rfl) (rvc (p := pa [p1 (.int .i64 ((i : Int) + 1)), p1 (.int .i64 (ca2 : Int)), p1 (.int .i64 ((ce2 : Nat) : Int))]) 0 rfl rfl rfl ty29)) [0, 1, 2, 3, 4] [_, _, _, _, _] rfl (by kernel_rfl) rfl (.inr ⟨i + 1, _, _, (scriptR_in (by omega)).trans (HSC.trans (script_bad (by omega) (by rw [List.length_map]; exact hcl2))), by first | decide | omega, rfl, rfl, rfl⟩)
  ·replace h2 := of_decide_eq_false h2
   refine c_exit rfl <| e_then <| csr <| mvl rfl <| bld [pt (0 : Int), pt (0 : Int), pt (0 : Int)] [] _ uy29 (lay29 _ uy29) z29 rfl rfl rfl <| agl rfl <| stw 0 _ [pt (0 : Int), pt (0 : Int), pt (0 : Int)] rfl rfl rfl rfl ty29 ⟨trivial, ?_⟩
   refine jt <| c_ret ?_
   exact j_end (own0 := []) (ro0 := [tPow10 9, tDb64 11]) (.inl rfl) rfl (hr2 Tryz.results6 (rvt (v := (.slice _ _ _)) rfl) (rvc (p := pa [pt (0 : Int), pt (0 : Int), pt (0 : Int)]) 0 rfl rfl rfl ty29)) [2, 3] [0, 1] [_, _] [_, _] [] _ rfl rfl (by kernel_rfl) rfl impl_nil (.inl ⟨L, o, (scriptR_in (by omega)).trans (HSC.trans (script_end (by omega))), hI1.2.1, hI1.2.2.1, HL4, hI1.2.2.2.2.1, rfl, rfl, rfl⟩)
end Go.Proofs.YtakbbpahfclgnaaGreatDoor
namespace Go.Proofs.YtakbbpahfclgnaaGreatDoor
open Go Go.Proofs Go.PW
open Go.PW.Enc (enc val)
theorem ty27 : Ty Tryz.prog 27 1 false := ⟨by kernel_rfl, by kernel_rfl⟩
theorem eq3 : EqT Tryz.prog 3 1 Int := eqT_int Tryz.underlying3
theorem eq27 : EqT Tryz.prog 27 1 Int := eqT_int Tryz.underlying27
theorem eq29 : EqT Tryz.prog 29 2 FaultT := eqT_struct (ps := [fun s => pt s.line, fun s => pt s.at_, fun s => pt s.why]) (bs := [fun a b => decide (a.line = b.line), fun a b => decide (a.at_ = b.at_), fun a b => decide (a.why = b.why)]) Tryz.underlying29 Tryz.stoodInHeld29 (fun _ => rfl)
  (.cons (by decide) rfl (fun _ => rfl) (fun _ => rfl) ⟨by kernel_rfl, by kernel_rfl⟩ (fun d x y w => eq3 (d + 0) x.line y.line w)
    (.cons (by decide) rfl (fun _ => rfl) (fun _ => rfl) ⟨by kernel_rfl, by kernel_rfl⟩ (fun d x y w => eq3 (d + 0) x.at_ y.at_ w)
    (.cons (by decide) rfl (fun _ => rfl) (fun _ => rfl) ⟨by kernel_rfl, by kernel_rfl⟩ (fun d x y w => eq27 (d + 0) x.why y.why w)
    (.nil _))))
  (fun x y => by cases x; cases y; simp [Bool.and_assoc])
theorem z40 : Zt Tryz.prog 40 ((p1 (.pointer none)).v) := by unfold Zt; kernel_rfl
theorem ty40 : Ty Tryz.prog 40 1 false := ⟨by kernel_rfl, by kernel_rfl⟩
def CmdO.z : CmdO := ⟨0, [], [], Ow.nil⟩
theorem map_at {L : List CmdO} {i : Nat} (hi : i < L.length) : (L.map CmdO.h)[i]? = some (CmdO.h (List.getD L i CmdO.z)) := by simp [List.getD, hi]
theorem getD_in {L : List CmdO} {i : Nat} (hi : i < L.length) : List.getD L i CmdO.z ∈ L := by simp [List.getD, hi]
theorem args_impl {src : List Seg} {L : List CmdO} {c : CmdO} {E : Nat} (j : Nat) (hs : src[j]? = some (argsS E L)) (hc : c ∈ L) : Impl src [c.o.vs.seg c.args] :=
  impl_trans (b := [c.o.seg c.args E]) (fun s h p hp => by
    rw [List.mem_singleton] at h; subst h
    exact ⟨_, List.mem_of_getElem? hs, p, List.mem_flatMap.2 ⟨c, hc, hp⟩, rfl, fun _ h => h⟩) (ow_impl 0 rfl)
theorem cm_at {L M : List CmdO} (h : L.map CmdO.cm = M.map CmdO.cm) {i : Nat} (hi : i < L.length) : (List.getD L i CmdO.z).line = (List.getD M i CmdO.z).line ∧ (List.getD L i CmdO.z).word = (List.getD M i CmdO.z).word ∧ (List.getD L i CmdO.z).args = (List.getD M i CmdO.z).args := by
  have hl : L.length = M.length := by have := congrArg List.length h; simpa using this
  have e := congrArg (fun l => l[i]?) h
  simp only [List.getElem?_map, List.getElem?_eq_getElem hi, List.getElem?_eq_getElem (show i < M.length by omega), Option.map_some, Option.some.injEq, CmdO.cm, Cm.mk.injEq] at e
  simpa [List.getD, hi, show i < M.length by omega] using e
def markS (i : Nat) : Str := [109, 97, 114, 107, 32] ++ [UInt8.ofNat (97 + i % 26), UInt8.ofNat (97 + i / 26 % 26)]
theorem sameTexts_ct (A B : Vs) (xs ys : List Str) (hA : A.ok xs) (hB : B.ok ys) (he : xs = ys) (hl : xs.length ≤ 1000000) : Ct Tryz.prog 21 [.slice A.adr xs.length A.cap, .slice B.adr ys.length B.cap] [] [A.seg xs, B.seg ys] (fun v o r => v = .bool true ∧ o = [] ∧ r = []) := by
 have hel : xs.length = ys.length := by rw [he]
 refine ct_enter Tryz.func21 rfl Tryz.ntmps21 (by kernel_rfl) rfl fun w0 => ?_
 refine csr <| agb rfl <| jt <| c_seq <| csr <| mvl rfl <| lenS rfl uy37 <| mvl rfl <| lenS rfl uy37 <| cmp false rfl rfl (by simp only [cmpV]; rw [decide_eq_true (show (xs.length : Int) = (ys.length : Int) by omega)]; rfl) <| jt <| c_false rfl <| c_skip <| e_then <| c_seq <| csr <| agi rfl <| jt <| c_block <| c_loop (σ := Nat) (fun i => i ≤ xs.length) (fun i => xs.length - i) (fun i => [(5, .int .i64 (i : Int))]) (fun i => []) (fun i => [A.seg xs, B.seg ys]) [4, 5, 11, 12, 13, 14, 15, 16, 17, 18, 19, 20, 21, 22, 23, 24, 25] 0 (Nat.zero_le _) ⟨rfl, trivial⟩ rfl rfl ?_
 rintro i g1 hI1
 try dsimp only at hI1 ⊢
 refine c_seq <| csr <| mvi rfl <| mvl rfl <| lenS rfl uy37 <| cmp _ rfl rfl rfl <| jt <| c_cond rfl (fun h1 => ?_) (fun h1 => ?_)
 ·replace h1 := of_decide_eq_true h1
  refine c_skip <| e_then <| c_seq <| c_block <| c_seq <| c_dr [_, _] [] [(0, 0), (1, 0), (2, 0), (3, 0), (4, 0), (5, 0), (6, 0), (7, 0), (8, 0)] follows (by kernel_rfl) calm_body (keepS [0, 1] rfl) <| mvl rfl <| mvi rfl <| ixs A xs i hA rfl rfl rfl uy37 ty9.sz rfl (by first | omega | (simp; done) | (simp; omega) | (simp at *; omega)) <| ldvsG 0 (List.getD xs i []) hA rfl rfl rfl rfl (getD_some (by first | omega | (simp; done) | (simp; omega) | (simp at *; omega))) ty9 <| mvl rfl <| mvi rfl <| ixs B ys i hB rfl rfl rfl uy37 ty9.sz rfl (by first | omega | (simp; done) | (simp; omega) | (simp at *; omega)) <| ldvsG 1 (List.getD ys i []) hB rfl rfl rfl rfl (getD_some (by first | omega | (simp; done) | (simp; omega) | (simp at *; omega))) ty9 <| scmp (a := (List.getD xs i [])) (b := (List.getD ys i [])) _ rfl rfl uy9 rfl <| j_re 25 (.bool false) (congrArg Value.bool (by rw [he]; simp)) <| jt <| c_false rfl <| c_skip <| e_in <| e_then <| c_reg <| mvi rfl <| addi rfl rfl rfl (by omega) <| agi rfl <| jn ?_
  exact e_loop (i + 1) (by omega) (by (try dsimp only); omega) (⟨rfl, trivial⟩) rfl rfl rfl
 ·replace h1 := of_decide_eq_false h1
  refine c_exit rfl <| e_then <| csr <| agb rfl <| jt <| c_ret ?_
  exact j_z (own0 := []) (ro0 := [A.seg xs, B.seg ys]) (.inl rfl) rfl (hr1 Tryz.results21 (rvt (v := (.bool _)) rfl)) rfl (⟨rfl, rfl, rfl⟩)
theorem mark_ct (i : Nat) (hi : i ≤ 1000000) : Ct Tryz.prog 22 [.int .i64 (i : Int)] [] [] (fun v o r => v = strV (markS i) ∧ o = [] ∧ r = []) := by
 refine ct_enter Tryz.func22 rfl Tryz.ntmps22 (by kernel_rfl) rfl fun w0 => ?_
 refine csr <| ags rfl <| jsr <| mvi rfl <| remn (a := i) (b := 26) rfl rfl (by decide) <| addi rfl rfl rfl (by omega) <| cvNU8 (n := (97 + (i % 26))) rfl uy3 uy5 <| mvi rfl <| quon (a := i) (b := 26) rfl rfl (by decide) (by omega) <| remn (a := (i / 26)) (b := 26) rfl rfl (by decide) <| addi rfl rfl rfl (by omega) <| cvNU8 (n := (97 + ((i / 26) % 26))) rfl uy3 uy5 <| bsl (α := UInt8) ([(UInt8.ofNat (97 + (i % 26))), (UInt8.ofNat (97 + ((i / 26) % 26)))]) uy93 ty5.sz rfl (by decide) z5 rfl fun b12 => ⟨trivial, ?_⟩
 refine cvBO (o := ⟨false, b12, 2, []⟩) (ys := ([(UInt8.ofNat (97 + (i % 26))), (UInt8.ofNat (97 + ((i / 26) % 26)))] : List UInt8)) 0 ⟨by simp, fun _ => rfl, Nat.le_refl _⟩ rfl rfl rfl uy93 uy9 uy5 <| sadd (a := ([109, 97, 114, 107, 32] : Str)) (b := ([(UInt8.ofNat (97 + (i % 26))), (UInt8.ofNat (97 + ((i / 26) % 26)))] : List UInt8)) rfl rfl (by simp) <| ags rfl <| jt <| c_ret ?_
 exact j_d (own0 := []) (ro0 := []) (.inl rfl) rfl (hr1 Tryz.results22 (rvt (v := (.string _)) rfl)) [0] [_] rfl (by kernel_rfl) rfl (⟨rfl, rfl, rfl⟩)
theorem faulty_nil  : Ct Tryz.prog 7 [.nilIface, .agg ⟨cat [pt (0 : Int), pt (0 : Int), pt (0 : Int)]⟩] [] [] (fun v o r => v = .bool true ∧ o = [] ∧ r = []) := by
 refine ct_enter Tryz.func7 rfl Tryz.ntmps7 (by kernel_rfl) rfl fun w0 => ?_
 refine csr <| bxx [pt (0 : Int), pt (0 : Int), pt (0 : Int)] _ rfl rfl fun b3 => ⟨trivial, ?_⟩
 refine agb rfl <| jt <| c_seq <| csr <| fad rfl uy29 rfl ty27.sz <| ldp 0 2 _ rfl rfl rfl rfl ty27 <| cmp true rfl rfl rfl <| jt <| c_true rfl <| csr <| mv .nilIface rfl <| eqnn true rfl uy24 rfl <| agb rfl <| jt <| c_ret ?_
 exact j_d (own0 := []) (ro0 := []) (.inl rfl) rfl (hr1 Tryz.results7 (rvt (v := (.bool _)) rfl)) [0] [_] rfl (by kernel_rfl) rfl (⟨rfl, rfl, rfl⟩)
theorem faulty_ct (f l a e : Nat) (he : 0 < e) : Ct Tryz.prog 7 [.iface 40 (.pointer (some ⟨f, 0, none⟩)), .agg ⟨cat [pt (l : Int), pt (a : Int), pt (e : Int)]⟩] [] [[(f, .cells (cat [pt (l : Int), pt (a : Int), pt (e : Int)]) 29)], [(0, .view 0 [.iface 119 (.agg #[.pointer (some ⟨13, 24, none⟩)])])]] (fun v o r => v = .bool true ∧ o = [] ∧ r = []) := by
 refine ct_enter Tryz.func7 rfl Tryz.ntmps7 (by kernel_rfl) rfl fun w0 => ?_
 refine csr <| bxx [pt (l : Int), pt (a : Int), pt (e : Int)] _ rfl rfl fun b3 => ⟨trivial, ?_⟩
 refine agb rfl <| jt <| c_seq <| csr <| fad rfl uy29 rfl ty27.sz <| ldp 0 2 _ rfl rfl rfl rfl ty27 <| cmp false rfl rfl (by simp only [cmpV]; exact congrArg some (decide_eq_false (by omega))) <| jt <| c_false rfl <| c_skip <| e_then <| csr <| alo [p1 (.pointer none)] _ z40 rfl fun b5 => ⟨trivial, ?_⟩
 refine jt <| c_seq <| c_dr [_, _, _] [] [(0, 0), (1, 0), (2, 1), (3, 0), (4, 1), (5, 0), (6, 0), (7, 0), (11, 0), (8, 1), (9, 0), (10, 0), (12, 0), (13, 0), (14, 0)] follows (by kernel_rfl) calm_body (keepS [0, 2, 3] rfl) <| mv (.iface _ _) rfl <| mki (v := (.pointer _)) rfl uy53 rfl <| cal (as_ct ⟨f, 0, none⟩ b5 40) [1] [0] [_] rfl rfl rfl (by kernel_rfl) (impl_cons (impl_at 1 rfl) impl_nil) rfl ?_; rintro _ _ _ ⟨rfl, rfl, rfl⟩; refine ⟨keepI [0, 2, 3] rfl, ?_⟩
 refine mvb rfl <| g_on rfl rfl rfl <| ldp 1 0 _ rfl rfl rfl rfl ty40 <| g_on rfl rfl rfl <| eqpn true rfl rfl uy40 rfl <| pkt (.bool _) rfl rfl <| mvb rfl <| g_on rfl rfl rfl <| ldw 0 _ rfl rfl ty29 <| g_on rfl rfl rfl <| ldp 1 0 _ rfl rfl rfl rfl ty40 <| g_on rfl rfl rfl <| nlc rfl <| g_on rfl rfl rfl <| ldw 1 _ rfl rfl ty29 <| g_on rfl rfl rfl <| eqA (⟨(l : Int), (a : Int), (e : Int)⟩ : FaultT) (⟨(l : Int), (a : Int), (e : Int)⟩ : FaultT) true rfl rfl rfl rfl eq29 rfl Tryz.eqGuardType29 (by simp) <| pkt (.bool _) rfl rfl <| agb rfl <| jt <| c_ret ?_
 exact j_d (own0 := []) (ro0 := [[(f, .cells (cat [pt (l : Int), pt (a : Int), pt (e : Int)]) 29)], [(0, .view 0 [.iface 119 (.agg #[.pointer (some ⟨13, 24, none⟩)])])]]) (.inl rfl) rfl (hr1 Tryz.results7 (rvt (v := (.bool _)) rfl)) [0, 1] [_, _] rfl (by kernel_rfl) rfl (⟨rfl, rfl, rfl⟩)
end Go.Proofs.YtakbbpahfclgnaaGreatDoor
namespace Go.Proofs.YtakbbpahfclgnaaGreatDoor
open Go Go.Proofs Go.PW
open Go.PW.Enc (enc val)
theorem args_split {L : List CmdO} {i : Nat} (hi : i < L.length) (E : Nat) : (argsS E (L.take i ++ L.drop (i + 1)) ++ (List.getD L i CmdO.z).o.seg (List.getD L i CmdO.z).args E).Perm (argsS E L) := by
  have e : L = L.take i ++ List.getD L i CmdO.z :: L.drop (i + 1) := by rw [← drop_g CmdO.z hi, List.take_append_drop]
  conv => rhs; rw [e]
  simp only [argsS, List.flatMap_append, List.flatMap_cons, List.append_assoc]
  exact List.Perm.append_left _ List.perm_append_comm
theorem args_join {L : List CmdO} {i : Nat} (hi : i < L.length) (c : CmdO) (E : Nat) : (argsS E (L.set i c)).Perm (argsS E (L.take i ++ L.drop (i + 1)) ++ c.o.seg c.args E) := by
  rw [List.set_eq_take_append_cons_drop, if_pos hi]
  simp only [argsS, List.flatMap_append, List.flatMap_cons, List.append_assoc]
  exact List.Perm.append_left _ List.perm_append_comm
theorem set_h {L : List CmdO} {i : Nat} (hi : i < L.length) {c : CmdO} (hc : c.h = (List.getD L i CmdO.z).h) : (L.set i c).map CmdO.h = L.map CmdO.h := by
  rw [List.map_set, hc, show (List.getD L i CmdO.z).h = (L.map CmdO.h)[i]'(by simpa using hi) by simp [List.getD, hi]]
  exact List.set_getElem_self ..
theorem okL_set {L : List CmdO} {i : Nat} {c : CmdO} (h : okL L) (hc : c.o.ok c.args) : okL (L.set i c) := fun x hx => by
  rcases List.mem_or_eq_of_mem_set hx with h1 | h1
  · exact h x h1
  · subst h1; exact hc
theorem getD_setC {L : List CmdO} {i j : Nat} (hi : i < L.length) (c : CmdO) : List.getD (L.set i c) j CmdO.z = if j = i then c else List.getD L j CmdO.z := by
  by_cases h : j = i
  · subst h; simp [List.getD, hi]
  · rw [if_neg h]; simp only [List.getD]; rw [List.getElem?_set_ne (fun e => h e.symm)]
theorem h_len {L N : List CmdO} (h : N.map CmdO.h = L.map CmdO.h) : N.length = L.length := by have := congrArg List.length h; simpa using this
theorem h_args {L N : List CmdO} (h : N.map CmdO.h = L.map CmdO.h) {i : Nat} (hi : i < L.length) : (List.getD N i CmdO.z).args.length = (List.getD L i CmdO.z).args.length := by
  have hl := h_len h
  have e := congrArg (fun l => l[i]?) h
  simp only [List.getElem?_map, List.getElem?_eq_getElem hi, List.getElem?_eq_getElem (show i < N.length by omega), Option.map_some, Option.some.injEq, CmdO.h, CmdH.mk.injEq, SlH.mk.injEq] at e
  simpa [List.getD, hi, show i < N.length by omega] using e.2.2.2.1
theorem sameCommands_ct (A B : Vs) (L M : List CmdO) (hA : A.ok (List.map CmdO.h L)) (hB : B.ok (List.map CmdO.h M)) (hL : okL L) (hM : okL M) (he : L.map CmdO.cm = M.map CmdO.cm) (hl : L.length ≤ 1000000) (hla : ∀ c ∈ L, c.args.length ≤ 5) : Ct Tryz.prog 8 [.slice A.adr (List.map CmdO.h L).length A.cap, .slice B.adr (List.map CmdO.h M).length B.cap] [] [A.seg (List.map CmdO.h L), argsS 9 L, B.seg (List.map CmdO.h M), argsS 9 M] (fun v o r => v = .bool true ∧ o = [] ∧ r = []) := by
 have hel : L.length = M.length := by have := congrArg List.length he; simpa using this
 have hlL : (List.map CmdO.h L).length = L.length := List.length_map ..
 have hlM : (List.map CmdO.h M).length = M.length := List.length_map ..
 refine ct_enter Tryz.func8 rfl Tryz.ntmps8 (by kernel_rfl) rfl fun w0 => ?_
 refine csr <| agb rfl <| jt <| c_seq <| csr <| mvl rfl <| lenS rfl uy22 <| mvl rfl <| lenS rfl uy22 <| cmp false rfl rfl (by simp only [cmpV]; rw [decide_eq_true (show ((List.map CmdO.h L).length : Int) = ((List.map CmdO.h M).length : Int) by omega)]; rfl) <| jt <| c_false rfl <| c_skip <| e_then <| c_seq <| csr <| agi rfl <| jt <| c_block <| c_loop (σ := Nat) (fun i => i ≤ (List.map CmdO.h L).length) (fun i => (List.map CmdO.h L).length - i) (fun i => [(5, .int .i64 (i : Int))]) (fun i => []) (fun i => [A.seg (List.map CmdO.h L), argsS 9 L, B.seg (List.map CmdO.h M), argsS 9 M]) [4, 5, 11, 12, 13, 14, 15, 16, 17, 18, 19, 20, 21, 22, 23, 24, 25, 26, 27, 28, 29, 30, 31, 32, 33, 34, 35, 36, 37, 38, 39, 40, 41, 42, 43, 44, 45, 46, 47, 48, 49, 50, 51, 52, 53, 54] 0 (Nat.zero_le _) ⟨rfl, trivial⟩ rfl rfl ?_
 rintro i g1 hI1
 try dsimp only at hI1 ⊢
 refine c_seq <| csr <| mvi rfl <| mvl rfl <| lenS rfl uy22 <| cmp _ rfl rfl rfl <| jt <| c_cond rfl (fun h1 => ?_) (fun h1 => ?_)
 ·replace h1 := of_decide_eq_true h1
  refine c_skip <| e_then <| c_seq <| c_block <| c_seq ?_
  have HC := cm_at he (i := i) (by omega)
  refine c_dr [_, _, _, _] [] [(0, 0), (1, 0), (2, 0), (3, 0), (4, 0), (5, 0), (6, 0), (7, 0), (8, 0), (9, 0), (10, 0), (11, 0), (12, 0), (13, 0), (14, 0), (15, 0), (16, 0), (17, 0), (18, 0), (19, 0), (20, 0), (21, 0), (22, 0), (23, 0), (24, 0), (25, 0), (26, 0), (27, 0), (28, 0), (29, 0), (30, 0), (31, 0), (32, 0), (33, 0), (34, 0), (35, 1), (36, 0), (37, 0)] follows (by kernel_rfl) calm_body (keepS [0, 1, 2, 3] rfl) <| mvl rfl <| mvi rfl <| ixs A (List.map CmdO.h L) i hA rfl rfl rfl uy22 ty39.sz rfl (by first | omega | (simp; done) | (simp; omega) | (simp at *; omega)) <| fad rfl uy39 rfl ty3.sz <| ldvsfG 0 0 (CmdO.h (List.getD L i CmdO.z)) _ hA rfl rfl rfl (map_at (by omega)) rfl rfl ty3 <| mvl rfl <| mvi rfl <| ixs B (List.map CmdO.h M) i hB rfl rfl rfl uy22 ty39.sz rfl (by first | omega | (simp; done) | (simp; omega) | (simp at *; omega)) <| fad rfl uy39 rfl ty3.sz <| ldvsfG 2 0 (CmdO.h (List.getD M i CmdO.z)) _ hB rfl rfl rfl (map_at (by omega)) rfl rfl ty3 <| cmp _ rfl rfl rfl <| j_re 27 (.bool false) (congrArg Value.bool (by rw [decide_eq_true (show (CmdO.h (List.getD L i CmdO.z)).line = (CmdO.h (List.getD M i CmdO.z)).line from congrArg (fun n : Nat => (n : Int)) HC.1)]; rfl)) <| mvb rfl <| g_on rfl rfl rfl <| mvl rfl <| g_on rfl rfl rfl <| mvi rfl <| g_on rfl rfl rfl <| ixs A (List.map CmdO.h L) i hA rfl rfl rfl uy22 ty39.sz rfl (by first | omega | (simp; done) | (simp; omega) | (simp at *; omega)) <| g_on rfl rfl rfl <| fad rfl uy39 rfl ty9.sz <| g_on rfl rfl rfl <| ldvsfG 0 1 (CmdO.h (List.getD L i CmdO.z)) _ hA rfl rfl rfl (map_at (by omega)) rfl rfl ty9 <| g_on rfl rfl rfl <| mvl rfl <| g_on rfl rfl rfl <| mvi rfl <| g_on rfl rfl rfl <| ixs B (List.map CmdO.h M) i hB rfl rfl rfl uy22 ty39.sz rfl (by first | omega | (simp; done) | (simp; omega) | (simp at *; omega)) <| g_on rfl rfl rfl <| fad rfl uy39 rfl ty9.sz <| g_on rfl rfl rfl <| ldvsfG 2 1 (CmdO.h (List.getD M i CmdO.z)) _ hB rfl rfl rfl (map_at (by omega)) rfl rfl ty9 <| g_on rfl rfl rfl <| scmp (a := (List.getD L i CmdO.z).word) (b := (List.getD M i CmdO.z).word) _ rfl rfl uy9 rfl <| j_re 39 (.bool false) (congrArg Value.bool (by rw [decide_eq_true HC.2.1]; rfl)) <| pkf (.bool _) rfl rfl <| mvb rfl <| g_on rfl rfl rfl ?_
  refine mvl rfl <| g_on rfl rfl rfl <| mvi rfl <| g_on rfl rfl rfl <| ixs A (List.map CmdO.h L) i hA rfl rfl rfl uy22 ty39.sz rfl (by first | omega | (simp; done) | (simp; omega) | (simp at *; omega)) <| g_on rfl rfl rfl <| fad rfl uy39 rfl ty37.sz <| g_on rfl rfl rfl <| ldvsfG 0 2 (CmdO.h (List.getD L i CmdO.z)) _ hA rfl rfl rfl (map_at (by omega)) rfl rfl ty37 <| g_on rfl rfl rfl <| mvl rfl <| g_on rfl rfl rfl <| mvi rfl <| g_on rfl rfl rfl <| ixs B (List.map CmdO.h M) i hB rfl rfl rfl uy22 ty39.sz rfl (by first | omega | (simp; done) | (simp; omega) | (simp at *; omega)) <| g_on rfl rfl rfl <| fad rfl uy39 rfl ty37.sz <| g_on rfl rfl rfl <| ldvsfG 2 2 (CmdO.h (List.getD M i CmdO.z)) _ hB rfl rfl rfl (map_at (by omega)) rfl rfl ty37 <| g_on rfl rfl rfl <| cal (sameTexts_ct (((List.getD L i CmdO.z).o).vs) (((List.getD M i CmdO.z).o).vs) ((List.getD L i CmdO.z).args) ((List.getD M i CmdO.z).args) (Ow.vs_ok (hL _ (getD_in (by omega)))) (Ow.vs_ok (hM _ (getD_in (by omega)))) HC.2.2 (Nat.le_trans (hla _ (getD_in (by omega))) (by decide))) [] [] [] rfl rfl rfl (by kernel_rfl) (impl_cons (args_impl 1 rfl (getD_in (by omega))) (args_impl 3 rfl (getD_in (by omega)))) rfl ?_; rintro _ _ _ ⟨rfl, rfl, rfl⟩; refine ⟨keepI [0, 1, 2, 3] rfl, ?_⟩
  refine g_on rfl rfl rfl <| not_ rfl <| pkf (.bool _) rfl rfl <| jt <| c_false rfl <| c_skip <| e_in <| e_then <| c_reg <| mvi rfl <| addi rfl rfl rfl (by omega) <| agi rfl <| jn ?_
  exact e_loop (i + 1) (by omega) (by show (List.map CmdO.h L).length - (i + 1) < (List.map CmdO.h L).length - i; omega) (⟨rfl, trivial⟩) rfl rfl rfl
 ·replace h1 := of_decide_eq_false h1
  refine c_exit rfl <| e_then <| csr <| agb rfl <| jt <| c_ret ?_
  exact j_z (own0 := []) (ro0 := [A.seg (List.map CmdO.h L), argsS 9 L, B.seg (List.map CmdO.h M), argsS 9 M]) (.inl rfl) rfl (hr1 Tryz.results8 (rvt (v := (.bool _)) rfl)) rfl (⟨rfl, rfl, rfl⟩)
end Go.Proofs.YtakbbpahfclgnaaGreatDoor
namespace Go.Proofs.YtakbbpahfclgnaaGreatDoor
open Go Go.Proofs Go.PW
open Go.PW.Enc (enc val)
theorem take_setK {xs : List Str} {k : Nat} {x : Str} (h : xs.take k = List.replicate k x) (hk : k < xs.length) : (xs.set k x).take (k + 1) = List.replicate (k + 1) x := by
  rw [List.take_set, List.take_succ_eq_append_getElem hk, List.set_append_right _ _ (by rw [List.length_take]; exact Nat.min_le_left _ _), h]
  simp [Nat.min_eq_left (Nat.le_of_lt hk), List.replicate_succ']
theorem set_oh {c : CmdO} {o : Ow} (ha : o.adr = c.o.adr) (hc : o.cap = c.o.cap) : (⟨c.line, c.word, c.args, o⟩ : CmdO).h = c.h := by simp [CmdO.h, ha, hc]
theorem spoil_ct (o : Ow) (L : List CmdO) (ho : o.ok (List.map CmdO.h L)) (hL : okL L) (hl : L.length ≤ 400) (hla : ∀ c ∈ L, c.args.length ≤ 5) : Ct Tryz.prog 9 [.slice o.adr (List.map CmdO.h L).length o.cap] [o.seg (List.map CmdO.h L) 39, argsS 9 L] [] (fun v w r => ∃ (o' : Ow) (P : List CmdO), o'.ok (List.map CmdO.h L) ∧ (o'.adr = o.adr ∧ o'.cap = o.cap) ∧ okL P ∧ P.map CmdO.h = L.map CmdO.h ∧ (∀ j, j < L.length → (List.getD P j CmdO.z).args = List.replicate (List.getD L j CmdO.z).args.length (markS j)) ∧ v = .tuple #[] ∧ w = [o'.seg (List.map CmdO.h L) 39, argsS 9 P] ∧ r = []) := by
 have hlL : (List.map CmdO.h L).length = L.length := List.length_map ..
 refine ct_enter Tryz.func9 rfl Tryz.ntmps9 (by kernel_rfl) rfl fun w0 => ?_
 refine c_seq <| csr <| agi rfl <| jt <| c_block <| c_loop (σ := Nat × List CmdO) (fun (i, N) => i ≤ L.length ∧ okL N ∧ N.map CmdO.h = L.map CmdO.h ∧ ∀ j, j < i → (List.getD N j CmdO.z).args = List.replicate (List.getD L j CmdO.z).args.length (markS j)) (fun (i, N) => L.length - i) (fun (i, N) => [(2, .int .i64 (i : Int))]) (fun (i, N) => [o.seg (List.map CmdO.h L) 39, argsS 9 N]) (fun (i, N) => []) [2, 3, 5, 6, 7, 8, 9, 10, 11, 12, 13, 14, 15, 16, 17, 18, 19, 20, 21, 22, 23, 24, 25, 26, 27, 28, 29] (0, L) (⟨Nat.zero_le _, hL, rfl, fun j hj => by omega⟩) ⟨rfl, trivial⟩ rfl rfl ?_
 rintro ⟨i, N⟩ g1 hI1
 try dsimp only at hI1 ⊢
 have hokN := hI1.2.1
 have HMN := hI1.2.2.1
 have HLN := h_len HMN
 refine c_seq <| csr <| mvi rfl <| mvl rfl <| lenS rfl uy22 <| cmp _ rfl rfl rfl <| jt <| c_cond rfl (fun h1 => ?_) (fun h1 => ?_)
 ·replace h1 := of_decide_eq_true h1
  refine c_skip <| e_then <| c_seq <| c_block <| csr <| agi rfl <| jt <| c_block <| c_loop (σ := Nat × List CmdO) (fun (k, Q) => k ≤ (List.getD L i CmdO.z).args.length ∧ okL Q ∧ Q.map CmdO.h = L.map CmdO.h ∧ (∀ j, j < i → (List.getD Q j CmdO.z).args = List.replicate (List.getD L j CmdO.z).args.length (markS j)) ∧ (List.getD Q i CmdO.z).args.take k = List.replicate k (markS i)) (fun (k, Q) => (List.getD L i CmdO.z).args.length - k) (fun (k, Q) => [(3, .int .i64 (k : Int))]) (fun (k, Q) => [o.seg (List.map CmdO.h L) 39, argsS 9 Q]) (fun (k, Q) => []) [3, 11, 12, 13, 14, 15, 16, 17, 18, 19, 20, 21, 22, 23, 24, 25, 26, 27, 28, 29] (0, N) (⟨Nat.zero_le _, hI1.2.1, hI1.2.2.1, hI1.2.2.2, rfl⟩) ⟨rfl, trivial⟩ rfl rfl ?_
  rintro ⟨k, Q⟩ g2 hI2
  try dsimp only at hI2 ⊢
  have hokQ := hI2.2.1
  have HMQ := hI2.2.2.1
  have HLQ := h_len HMQ
  have HQA := h_args HMQ (i := i) (by omega)
  have HLA := hla _ (getD_in (L := L) (i := i) (by omega))
  refine c_seq <| csr <| mvi rfl <| mvl rfl <| mvi rfl <| ixs ((o).vs) (List.map CmdO.h L) i (Ow.vs_ok ho) rfl rfl rfl uy22 ty39.sz rfl (by first | omega | (simp; done) | (simp; omega) | (simp at *; omega)) <| fad rfl uy39 rfl ty37.sz <| ldsofG 0 2 (CmdO.h (List.getD Q i CmdO.z)) _ ho rfl rfl rfl (by rw [← HMQ]; exact map_at (by omega)) rfl rfl ty37 <| lenS rfl uy37 <| j_re 17 (.int .i64 ((List.getD Q i CmdO.z).args.length : Int)) rfl <| cmp _ rfl rfl rfl <| jt <| c_cond rfl (fun h2 => ?_) (fun h2 => ?_)
  ·replace h2 := of_decide_eq_true h2
   refine c_skip <| e_then <| c_seq <| c_block <| c_part (own' := [o.seg (List.map CmdO.h L) 39, argsS 9 (List.take i Q ++ List.drop (i + 1) Q), (List.getD Q i CmdO.z).o.seg (List.getD Q i CmdO.z).args 9]) (by simp only [List.flatten_cons, List.flatten_nil, List.append_nil]; exact List.Perm.append_left _ (args_split (by omega) _)) <| c_dr [_, _] [] [(0, 0), (1, 0), (2, 0), (3, 0), (4, 0), (5, 0), (6, 0), (7, 1), (8, 0), (9, 1)] follows (by kernel_rfl) calm_body (keepS [0, 1] rfl) <| mvl rfl <| mvi rfl <| ixs ((o).vs) (List.map CmdO.h L) i (Ow.vs_ok ho) rfl rfl rfl uy22 ty39.sz rfl (by first | omega | (simp; done) | (simp; omega) | (simp at *; omega)) <| fad rfl uy39 rfl ty37.sz <| ldsofG 0 2 (CmdO.h (List.getD Q i CmdO.z)) _ ho rfl rfl rfl (by rw [← HMQ]; exact map_at (by omega)) rfl rfl ty37 <| mvi rfl <| mvi rfl <| cal (mark_ct i (by omega)) [] [0, 1, 2] [_, _, _] rfl rfl rfl (by kernel_rfl) impl_nil rfl ?_; rintro _ _ _ ⟨rfl, rfl, rfl⟩; refine ⟨keepI [0, 1] rfl, ?_⟩
   refine ixs (((List.getD Q i CmdO.z).o).vs) ((List.getD Q i CmdO.z).args) k (Ow.vs_ok (hokQ _ (getD_in (by omega)))) rfl rfl rfl uy37 ty9.sz rfl (by first | omega | (simp; done) | (simp; omega) | (simp at *; omega)) <| sto 2 k (markS i) (hokQ _ (getD_in (by omega))) rfl rfl rfl rfl rfl (by omega) ty9 ⟨keepI [0, 1] rfl, ?_⟩
   refine jn <| e_in <| e_then <| c_keep [0, 1, 2] [] [_, _, _] rfl (by kernel_rfl) <| c_part (own' := [o.seg (List.map CmdO.h L) 39, argsS 9 (Q.set i ⟨(List.getD Q i CmdO.z).line, (List.getD Q i CmdO.z).word, (List.getD Q i CmdO.z).args.set k (markS i), (List.getD Q i CmdO.z).o⟩)]) (by simp only [List.flatten_cons, List.flatten_nil, List.append_nil]; exact List.Perm.append_left _ (args_join (by omega) _ _)) <| c_reg <| mvi rfl <| addi rfl rfl rfl (by omega) <| agi rfl <| jn ?_
   exact e_loop (k + 1, Q.set i ⟨(List.getD Q i CmdO.z).line, (List.getD Q i CmdO.z).word, (List.getD Q i CmdO.z).args.set k (markS i), (List.getD Q i CmdO.z).o⟩) (by dsimp only; exact ⟨by omega, okL_set hokQ (Ow.ok_set (hokQ _ (getD_in (by omega))) k _), (set_h (by omega) (by simp [CmdO.h])).trans HMQ, fun j hj => by rw [getD_setC (by omega), if_neg (by omega)]; exact hI2.2.2.2.1 j hj, by rw [getD_setC (by omega), if_pos rfl]; exact take_setK hI2.2.2.2.2 (by omega)⟩) (by show (List.getD L i CmdO.z).args.length - (k + 1) < (List.getD L i CmdO.z).args.length - k; omega) (⟨rfl, trivial⟩) rfl rfl rfl
  ·replace h2 := of_decide_eq_false h2
   refine c_exit rfl <| e_in <| e_then <| c_reg <| mvi rfl <| addi rfl rfl rfl (by omega) <| agi rfl <| jn ?_
   exact e_lp (i + 1, Q) (by repeat (first | exact out_self | refine out_hav (by kernel_rfl) ?_ | refine out_look (by kernel_rfl) ?_)) (by dsimp only; exact ⟨by omega, hI2.2.1, hI2.2.2.1, fun j hj => by rcases Nat.lt_or_ge j i with h | h; exact hI2.2.2.2.1 j h; rw [show j = i by omega]; have e := hI2.2.2.2.2; rw [show k = (List.getD L i CmdO.z).args.length by omega, List.take_of_length_le (by omega)] at e; exact e⟩) (by show L.length - (i + 1) < L.length - i; omega) (⟨rfl, trivial⟩) rfl rfl rfl
 ·replace h1 := of_decide_eq_false h1
  refine c_exit rfl <| e_then <| c_seq <| csr <| agi rfl <| jt <| c_block <| c_loop (σ := Nat × List CmdO) (fun (i, P) => i ≤ L.length ∧ okL P ∧ P.map CmdO.h = L.map CmdO.h ∧ ∀ j, j < L.length → (List.getD P j CmdO.z).args = List.replicate (List.getD L j CmdO.z).args.length (markS j)) (fun (i, P) => L.length - i) (fun (i, P) => [(4, .int .i64 (i : Int))]) (fun (i, P) => [o.seg (List.map CmdO.h L) 39, argsS 9 P]) (fun (i, P) => []) [4, 30, 31, 32, 33, 34, 35, 36, 37, 38, 39, 40, 41, 42] (0, N) (⟨Nat.zero_le _, hI1.2.1, hI1.2.2.1, fun j hj => hI1.2.2.2 j (by omega)⟩) ⟨rfl, trivial⟩ rfl rfl ?_
  rintro ⟨i, P⟩ g3 hI3
  try dsimp only at hI3 ⊢
  have hokP := hI3.2.1
  have HMP := hI3.2.2.1
  have HLP := h_len HMP
  have HLA := fun (h : i < L.length) => hla _ (getD_in (L := L) (i := i) h)
  have HPA := fun (h : i < L.length) => h_args HMP (i := i) h
  refine c_seq <| csr <| mvi rfl <| mvl rfl <| lenS rfl uy22 <| cmp _ rfl rfl rfl <| jt <| c_cond rfl (fun h3 => ?_) (fun h3 => ?_)
  ·replace h3 := of_decide_eq_true h3
   refine c_skip <| e_then <| c_seq <| c_block <| c_part (own' := [o.seg (List.map CmdO.h L) 39, argsS 9 (List.take i P ++ List.drop (i + 1) P), (List.getD P i CmdO.z).o.seg (List.getD P i CmdO.z).args 9]) (by simp only [List.flatten_cons, List.flatten_nil, List.append_nil]; exact List.Perm.append_left _ (args_split (by omega) _)) <| c_reg <| mvl rfl <| mvi rfl <| ixs ((o).vs) (List.map CmdO.h L) i (Ow.vs_ok ho) rfl rfl rfl uy22 ty39.sz rfl (by first | omega | (simp; done) | (simp; omega) | (simp at *; omega)) <| fad rfl uy39 rfl ty37.sz <| ldsofG 0 2 (CmdO.h (List.getD P i CmdO.z)) _ ho rfl rfl rfl (by rw [← HMP]; exact map_at (by omega)) rfl rfl ty37 <| bsl (α := Str) ([([103, 114, 111, 119, 110] : Str), ([103, 114, 111, 119, 110] : Str), ([103, 114, 111, 119, 110] : Str), ([103, 114, 111, 119, 110] : Str)]) uy37 ty9.sz rfl (by decide) z9 rfl fun b41 => ⟨trivial, ?_⟩
   refine appk 2 ((List.getD P i CmdO.z).o) ((List.getD P i CmdO.z).args) ([([103, 114, 111, 119, 110] : Str), ([103, 114, 111, 119, 110] : Str), ([103, 114, 111, 119, 110] : Str), ([103, 114, 111, 119, 110] : Str)] : List Str) (hokP _ (getD_in (by omega))) rfl ⟨rfl, rfl, rfl⟩ rfl rfl (gives_own (ys := ([([103, 114, 111, 119, 110] : Str), ([103, 114, 111, 119, 110] : Str), ([103, 114, 111, 119, 110] : Str), ([103, 114, 111, 119, 110] : Str)] : List Str)) (pre := []) (post := []) 3 rfl (by simp) rfl) uy37 uy37 (.inl ⟨_, rfl⟩) ty9.sz by9 z9 (by have := HLA (by omega); have := HPA (by omega); show ((List.getD P i CmdO.z).args.length + 4) * 16 ≤ _; omega) rfl fun ol42_2 _ ol42_2k ol42_2a ol42_2c => ⟨trivial, ?_⟩
   refine jn <| e_in <| e_then <| c_keep [0, 1, 2] [3] [_, _, _] rfl (by kernel_rfl) <| c_part (own' := [o.seg (List.map CmdO.h L) 39, argsS 9 (P.set i ⟨(List.getD P i CmdO.z).line, (List.getD P i CmdO.z).word, (List.getD P i CmdO.z).args, ol42_2⟩)]) (by simp only [List.flatten_cons, List.flatten_nil, List.append_nil]; exact List.Perm.append_left _ (args_join (by omega) _ _)) <| c_reg <| mvi rfl <| addi rfl rfl rfl (by omega) <| agi rfl <| jn ?_
   exact e_loop (i + 1, P.set i ⟨(List.getD P i CmdO.z).line, (List.getD P i CmdO.z).word, (List.getD P i CmdO.z).args, ol42_2⟩) (by dsimp only; exact ⟨by omega, okL_set hokP ol42_2k, (set_h (by omega) (set_oh ol42_2a ol42_2c)).trans HMP, fun j hj => by rw [getD_setC (by omega)]; split; rename_i e; subst e; exact hI3.2.2.2 _ hj; exact hI3.2.2.2 j hj⟩) (by show L.length - (i + 1) < L.length - i; omega) (⟨rfl, trivial⟩) rfl rfl rfl
  ·replace h3 := of_decide_eq_false h3
   refine c_exit rfl <| e_then <| c_reg <| mvl rfl <| bld [pt (0 : Int), pt ([] : Str), p1 (.slice none 0 0)] [(1, pt ([103, 114, 111, 119, 110] : Str))] _ uy39 (lay39 _ uy39) z39 rfl rfl rfl <| bld [pt (0 : Int), pt ([] : Str), p1 (.slice none 0 0)] [(1, pt ([103, 114, 111, 119, 110] : Str))] _ uy39 (lay39 _ uy39) z39 rfl rfl rfl <| bsl (α := CmdH) ([(⟨(0 : Int), ([103, 114, 111, 119, 110] : Str), (⟨none, 0, 0⟩ : SlH)⟩ : CmdH), (⟨(0 : Int), ([103, 114, 111, 119, 110] : Str), (⟨none, 0, 0⟩ : SlH)⟩ : CmdH)]) uy22 ty39.sz rfl (by decide) z39 rfl fun b46 => ⟨trivial, ?_⟩
   refine appk 0 o (List.map CmdO.h L) ([(⟨(0 : Int), ([103, 114, 111, 119, 110] : Str), (⟨none, 0, 0⟩ : SlH)⟩ : CmdH), (⟨(0 : Int), ([103, 114, 111, 119, 110] : Str), (⟨none, 0, 0⟩ : SlH)⟩ : CmdH)] : List CmdH) ho rfl ⟨rfl, rfl, rfl⟩ rfl rfl (gives_own (ys := ([(⟨(0 : Int), ([103, 114, 111, 119, 110] : Str), (⟨none, 0, 0⟩ : SlH)⟩ : CmdH), (⟨(0 : Int), ([103, 114, 111, 119, 110] : Str), (⟨none, 0, 0⟩ : SlH)⟩ : CmdH)] : List CmdH)) (pre := []) (post := []) 2 rfl (by simp) rfl) uy22 uy22 (.inl ⟨_, rfl⟩) ty39.sz by39 z39 (by simp; omega) rfl fun ol47_4 _ ol47_4k ol47_4a ol47_4c => ⟨trivial, ?_⟩
   refine jn ?_
   exact j_end (own0 := [o.seg (List.map CmdO.h L) 39, argsS 9 L]) (ro0 := []) (.inr rfl) rfl (hr0 Tryz.results9) [0, 1] [2] [_, _] [_] [] _ rfl rfl (by kernel_rfl) rfl impl_nil (⟨ol47_4, P, ol47_4k, ⟨ol47_4a, ol47_4c⟩, hokP, HMP, hI3.2.2.2, rfl, rfl, rfl⟩)
end Go.Proofs.YtakbbpahfclgnaaGreatDoor
namespace Go.Proofs.YtakbbpahfclgnaaGreatDoor
open Go Go.Proofs Go.PW
open Go.PW.Enc (enc val)
theorem mk_at {xs : List Str} {n k : Nat} {x : Str} (h : xs = List.replicate n x) (hk : k < xs.length) : List.getD xs k [] = x := by
  subst h; simp at hk; simp [List.getD, hk]
theorem impl_empty {src : List Seg} : Impl src [([] : Seg)] := fun s hs p hp => by
  rw [List.mem_singleton] at hs; subst hs; cases hp
theorem LParse_in (s : Str) (hs : s.length ≤ 140737488351232) (eu : TypeId) (ev : Value) (ru : TypeId) (rv : Value) {cs : List Cm} (h : scriptR fit16 form16 ([98, 101, 103, 105, 110] : Str) 160 s = .inr cs) : Ct Tryz.prog 5 [strV s] [] [tPow10 9, tDb64 11, tIf 7 eu ev, tIf 8 ru rv] (fun v w r => ∃ (L : List CmdO) (o' : Ow), L.map CmdO.cm = cs ∧ okL L ∧ o'.ok (List.map CmdO.h L) ∧ L.length ≤ 400 ∧ (∀ c ∈ L, c.args.length ≤ 5) ∧ v = .tuple #[.slice o'.adr (List.map CmdO.h L).length o'.cap, .nilIface] ∧ w = [o'.seg (List.map CmdO.h L) 39, argsS 9 L] ∧ r = []) :=
  (LParse_ct s hs eu ev ru rv).mono fun v w r hh => by
    rcases hh with ⟨L, o', h', h2, h3, h4, h5, h6, h7, h8⟩ | hh
    · cases h.symm.trans h'; exact ⟨L, o', rfl, h2, h3, h4, h5, h6, h7, h8⟩
    · obtain ⟨f, l, a, e, h', _⟩ := hh; cases h.symm.trans h'
theorem RefParse_in (s : Str) (hs : s.length ≤ 140737488351232) {cs : List Cm} (h : scriptR fit16 form16 ([98, 101, 103, 105, 110] : Str) 160 s = .inr cs) : Ct Tryz.prog 6 [strV s] [] [tPow10 9, tDb64 11] (fun v w r => ∃ (L : List CmdO) (o' : Ow), L.map CmdO.cm = cs ∧ okL L ∧ o'.ok (List.map CmdO.h L) ∧ L.length ≤ 400 ∧ (∀ c ∈ L, c.args.length ≤ 5) ∧ v = .tuple #[.slice o'.adr (List.map CmdO.h L).length o'.cap, .agg ⟨cat [pt (0 : Int), pt (0 : Int), pt (0 : Int)]⟩] ∧ w = [o'.seg (List.map CmdO.h L) 39, argsS 9 L] ∧ r = []) :=
  (RefParse_ct s hs).mono fun v w r hh => by
    rcases hh with ⟨L, o', h', h2, h3, h4, h5, h6, h7, h8⟩ | hh
    · cases h.symm.trans h'; exact ⟨L, o', rfl, h2, h3, h4, h5, h6, h7, h8⟩
    · obtain ⟨l, a, e, h', _⟩ := hh; cases h.symm.trans h'
theorem LParse_no (s : Str) (hs : s.length ≤ 140737488351232) (eu : TypeId) (ev : Value) (ru : TypeId) (rv : Value) {l a e : Nat} (h : scriptR fit16 form16 ([98, 101, 103, 105, 110] : Str) 160 s = .inl (l, a, e)) : Ct Tryz.prog 5 [strV s] [] [tPow10 9, tDb64 11, tIf 7 eu ev, tIf 8 ru rv] (fun v w r => ∃ f : Nat, v = .tuple #[.slice none 0 0, .iface 40 (.pointer (some ⟨f, 0, none⟩))] ∧ w = [[(f, .cells (cat [pt (l : Int), pt (a : Int), pt (e : Int)]) 29)]] ∧ r = []) :=
  (LParse_ct s hs eu ev ru rv).mono fun v w r hh => by
    rcases hh with ⟨L, o', h', _⟩ | ⟨f, l', a', e', h', h2, h3, h4⟩
    · cases h.symm.trans h'
    · cases h.symm.trans h'; exact ⟨f, h2, h3, h4⟩
theorem RefParse_no (s : Str) (hs : s.length ≤ 140737488351232) {l a e : Nat} (h : scriptR fit16 form16 ([98, 101, 103, 105, 110] : Str) 160 s = .inl (l, a, e)) : Ct Tryz.prog 6 [strV s] [] [tPow10 9, tDb64 11] (fun v w r => 0 < e ∧ v = .tuple #[.slice none 0 0, .agg ⟨cat [pt (l : Int), pt (a : Int), pt (e : Int)]⟩] ∧ w = [] ∧ r = []) :=
  (RefParse_ct s hs).mono fun v w r hh => by
    rcases hh with ⟨L, o', h', _⟩ | ⟨l', a', e', h', h0, h2, h3, h4⟩
    · cases h.symm.trans h'
    · cases h.symm.trans h'; exact ⟨h0, h2, h3, h4⟩
theorem marked_ct (o : Ow) (L P : List CmdO) (ho : o.ok (List.map CmdO.h L)) (hokP : okL P) (HMP : P.map CmdO.h = L.map CmdO.h) (HMK : ∀ j, j < L.length → (List.getD P j CmdO.z).args = List.replicate (List.getD L j CmdO.z).args.length (markS j)) (hl : L.length ≤ 400) (hla : ∀ c ∈ L, c.args.length ≤ 5) : Ct Tryz.prog 10 [.slice o.adr (List.map CmdO.h L).length o.cap] [o.seg (List.map CmdO.h L) 39, argsS 9 P] [] (fun v w r => v = .bool true ∧ w = [o.seg (List.map CmdO.h L) 39, argsS 9 P] ∧ r = []) := by
 have hlL : (List.map CmdO.h L).length = L.length := List.length_map ..
 have HLP := h_len HMP
 refine ct_enter Tryz.func10 rfl Tryz.ntmps10 (by kernel_rfl) rfl fun w0 => ?_
 refine csr <| agb rfl <| jt <| c_seq <| csr <| agi rfl <| jt <| c_block <| c_loop (σ := Nat) (fun i => i ≤ L.length) (fun i => L.length - i) (fun i => [(3, .int .i64 (i : Int))]) (fun i => [o.seg (List.map CmdO.h L) 39, argsS 9 P]) (fun i => []) [2, 3, 4, 5, 6, 7, 8, 9, 10, 11, 12, 13, 14, 15, 16, 17, 18, 19, 20, 21, 22, 23, 24, 25, 26, 27, 28, 29, 30, 31] 0 (Nat.zero_le _) ⟨rfl, trivial⟩ rfl rfl ?_
 rintro i g1 hI1
 try dsimp only at hI1 ⊢
 refine c_seq <| csr <| mvi rfl <| mvl rfl <| lenS rfl uy22 <| cmp _ rfl rfl rfl <| jt <| c_cond rfl (fun h1 => ?_) (fun h1 => ?_)
 ·replace h1 := of_decide_eq_true h1
  refine c_skip <| e_then <| c_seq <| c_block <| csr <| agi rfl <| jt <| c_block <| c_loop (σ := Nat) (fun k => k ≤ (List.getD P i CmdO.z).args.length) (fun k => (List.getD P i CmdO.z).args.length - k) (fun k => [(4, .int .i64 (k : Int))]) (fun k => [o.seg (List.map CmdO.h L) 39, argsS 9 P]) (fun k => []) [2, 4, 11, 12, 13, 14, 15, 16, 17, 18, 19, 20, 21, 22, 23, 24, 25, 26, 27, 28, 29, 30, 31] 0 (Nat.zero_le _) ⟨rfl, trivial⟩ rfl rfl ?_
  rintro k g2 hI2
  try dsimp only at hI2 ⊢
  have HPA := h_args HMP (i := i) (by omega)
  have HLA := hla _ (getD_in (L := L) (i := i) (by omega))
  refine c_seq <| csr <| mvi rfl <| mvl rfl <| mvi rfl <| ixs ((o).vs) (List.map CmdO.h L) i (Ow.vs_ok ho) rfl rfl rfl uy22 ty39.sz rfl (by first | omega | (simp; done) | (simp; omega) | (simp at *; omega)) <| fad rfl uy39 rfl ty37.sz <| ldsofG 0 2 (CmdO.h (List.getD P i CmdO.z)) _ ho rfl rfl rfl (by rw [← HMP]; exact map_at (by omega)) rfl rfl ty37 <| lenS rfl uy37 <| j_re 17 (.int .i64 ((List.getD P i CmdO.z).args.length : Int)) rfl <| cmp _ rfl rfl rfl <| jt <| c_cond rfl (fun h2 => ?_) (fun h2 => ?_)
  ·replace h2 := of_decide_eq_true h2
   refine c_skip <| e_then <| c_seq <| c_block <| c_seq <| c_part (own' := [o.seg (List.map CmdO.h L) 39, argsS 9 (List.take i P ++ List.drop (i + 1) P), (List.getD P i CmdO.z).o.seg (List.getD P i CmdO.z).args 9]) (by simp only [List.flatten_cons, List.flatten_nil, List.append_nil]; exact List.Perm.append_left _ (args_split (by omega) _)) <| c_dr [_, _, _] [] [(0, 0), (1, 0), (2, 0), (3, 0), (4, 0), (5, 0), (6, 0), (7, 0), (8, 0), (9, 1), (10, 0)] follows (by kernel_rfl) calm_body (keepS [0, 1, 2] rfl) <| mvl rfl <| mvi rfl <| ixs ((o).vs) (List.map CmdO.h L) i (Ow.vs_ok ho) rfl rfl rfl uy22 ty39.sz rfl (by first | omega | (simp; done) | (simp; omega) | (simp at *; omega)) <| fad rfl uy39 rfl ty37.sz <| ldsofG 0 2 (CmdO.h (List.getD P i CmdO.z)) _ ho rfl rfl rfl (by rw [← HMP]; exact map_at (by omega)) rfl rfl ty37 <| mvi rfl <| ixs (((List.getD P i CmdO.z).o).vs) ((List.getD P i CmdO.z).args) k (Ow.vs_ok (hokP _ (getD_in (by omega)))) rfl rfl rfl uy37 ty9.sz rfl (by first | omega | (simp; done) | (simp; omega) | (simp at *; omega)) <| ldsoG 2 (List.getD ((List.getD P i CmdO.z).args) k []) (hokP _ (getD_in (by omega))) rfl rfl rfl rfl (getD_some (by first | omega | (simp; done) | (simp; omega) | (simp at *; omega))) ty9 <| mvi rfl <| cal (mark_ct i (by omega)) [] [0, 1, 2] [_, _, _] rfl rfl rfl (by kernel_rfl) impl_nil rfl ?_; rintro _ _ _ ⟨rfl, rfl, rfl⟩; refine ⟨keepI [0, 1, 2] rfl, ?_⟩
   refine scmp (a := (List.getD ((List.getD P i CmdO.z).args) k [])) (b := (markS i)) _ rfl rfl uy9 rfl <| j_re 31 (.bool false) (congrArg Value.bool (by rw [decide_eq_true (mk_at (HMK i (by omega)) (by omega))]; rfl)) <| jt <| c_false rfl <| c_skip <| e_in <| e_then <| c_keep [0, 1, 2] [] [_, _, _] rfl (by kernel_rfl) <| c_part (own' := [o.seg (List.map CmdO.h L) 39, argsS 9 (P)]) (by simp only [List.flatten_cons, List.flatten_nil, List.append_nil]; exact List.Perm.append_left _ ((args_split (by omega) _).symm)) <| c_reg <| mvi rfl <| addi rfl rfl rfl (by omega) <| agi rfl <| jn ?_
   exact e_loop (k + 1) (by omega) (by show (List.getD P i CmdO.z).args.length - (k + 1) < (List.getD P i CmdO.z).args.length - k; omega) (⟨rfl, trivial⟩) rfl rfl rfl
  ·replace h2 := of_decide_eq_false h2
   refine c_exit rfl <| e_in <| e_then <| c_reg <| mvi rfl <| addi rfl rfl rfl (by omega) <| agi rfl <| jn ?_
   exact e_lp (i + 1) (by repeat (first | exact out_self | refine out_hav (by kernel_rfl) ?_ | refine out_look (by kernel_rfl) ?_)) (by omega) (by (try dsimp only); omega) (⟨rfl, trivial⟩) rfl rfl rfl
 ·replace h1 := of_decide_eq_false h1
  refine c_exit rfl <| e_then <| csr <| agb rfl <| jt <| c_ret ?_
  exact j_end (own0 := [o.seg (List.map CmdO.h L) 39, argsS 9 P]) (ro0 := []) (.inl rfl) rfl (hr1 Tryz.results10 (rvt (v := (.bool _)) rfl)) [0, 1] [] [_, _] [] [] _ rfl rfl (by kernel_rfl) rfl impl_nil (⟨rfl, rfl, rfl⟩)
theorem LabParses_ct (s : Str) (hs : s.length ≤ 140737488351232) (eu : TypeId) (ev : Value) (ru : TypeId) (rv : Value) : Ct Tryz.prog 3 [strV s] [] [tPow10 9, tDb64 11, tIf 7 eu ev, tIf 8 ru rv, [(0, .view 0 [.iface 119 (.agg #[.pointer (some ⟨13, 24, none⟩)])])]] (fun v o r => v = .bool true ∧ o = [] ∧ r = []) := by
 refine ct_enter Tryz.func3 rfl Tryz.ntmps3 (by kernel_rfl) rfl fun w0 => ?_
 refine csr <| agb rfl <| jsr <| mvs rfl <| cal (LParse_ct s hs eu ev ru rv) [] [] [] rfl rfl rfl (by kernel_rfl) (impl_cons (impl_at 0 rfl) (impl_cons (impl_at 1 rfl) (impl_cons (impl_at 2 rfl) (impl_cons (impl_at 3 rfl) impl_nil)))) rfl ?_; rintro _ _ _ (⟨La, oa, hA, hokoa, hoa, hla, hca, rfl, rfl, rfl⟩ | ⟨fa, fl, fat, fe, hB, rfl, rfl, rfl⟩)
 ·refine ⟨trivial, ?_⟩
  refine mv (.tuple _) rfl <| xtr (.slice _ _ _) rfl rfl <| xtr .nilIface rfl rfl <| agl rfl <| asg .nilIface rfl <| jsr <| mvs rfl <| cal (LParse_in s hs eu ev ru rv hA) [] [0, 1] [_, _] rfl rfl rfl (by kernel_rfl) (impl_cons (impl_at 0 rfl) (impl_cons (impl_at 1 rfl) (impl_cons (impl_at 2 rfl) (impl_cons (impl_at 3 rfl) impl_nil)))) rfl ?_; rintro _ _ _ ⟨Lb, ob, heb, hokob, hob, hlb, hcb, rfl, rfl, rfl⟩; refine ⟨trivial, ?_⟩
  refine mv (.tuple _) rfl <| xtr (.slice _ _ _) rfl rfl <| xtr .nilIface rfl rfl <| agl rfl <| asg .nilIface rfl <| jsr <| mvs rfl <| cal (RefParse_in s hs hA) [] [0, 1, 2, 3] [_, _, _, _] rfl rfl rfl (by kernel_rfl) (impl_cons (impl_at 0 rfl) (impl_cons (impl_at 1 rfl) impl_nil)) rfl ?_; rintro _ _ _ ⟨Lc, oc, hec, hokoc, hoc, hlc, hcc, rfl, rfl, rfl⟩; refine ⟨trivial, ?_⟩
  refine mv (.tuple _) rfl <| xtr (.slice _ _ _) rfl rfl <| xtr (.agg _) rfl rfl <| alo [pt (0 : Int), pt (0 : Int), pt (0 : Int)] _ z29 rfl fun b8 => ⟨trivial, ?_⟩
  refine agl rfl <| stw 6 _ [pt (0 : Int), pt (0 : Int), pt (0 : Int)] rfl rfl rfl rfl ty29 ⟨trivial, ?_⟩
  refine jt <| c_seq <| csr <| mv .nilIface rfl <| ldw 6 _ rfl rfl ty29 <| cal faulty_nil [] [0, 1, 2, 3, 4, 5, 6] [_, _, _, _, _, _, _] rfl rfl rfl (by kernel_rfl) impl_nil rfl ?_; rintro _ _ _ ⟨rfl, rfl, rfl⟩; refine ⟨trivial, ?_⟩
  refine not_ rfl <| mvb rfl <| g_on rfl rfl rfl <| mv .nilIface rfl <| g_on rfl rfl rfl <| ldw 6 _ rfl rfl ty29 <| g_on rfl rfl rfl <| cal faulty_nil [] [0, 1, 2, 3, 4, 5, 6] [_, _, _, _, _, _, _] rfl rfl rfl (by kernel_rfl) impl_nil rfl ?_; rintro _ _ _ ⟨rfl, rfl, rfl⟩; refine ⟨trivial, ?_⟩
  refine g_on rfl rfl rfl <| not_ rfl <| pkf (.bool _) rfl rfl <| mvb rfl <| g_on rfl rfl rfl <| mvl rfl <| g_on rfl rfl rfl <| mvl rfl <| g_on rfl rfl rfl <| cal (sameCommands_ct ((oa).vs) ((oc).vs) La Lc (Ow.vs_ok hoa) (Ow.vs_ok hoc) hokoa hokoc (by first | exact heb.trans hec.symm | exact (Sum.inr.inj (hA.symm.trans (congrArg Sum.inr hec.symm))) | exact hec.symm) (by omega) hca) [] [0, 1, 2, 3, 4, 5, 6] [_, _, _, _, _, _, _] rfl rfl rfl (by kernel_rfl) (impl_cons (ow_impl 5 rfl) (impl_cons (impl_at 6 rfl) (impl_cons (ow_impl 9 rfl) (impl_at 10 rfl)))) rfl ?_; rintro _ _ _ ⟨rfl, rfl, rfl⟩; refine ⟨trivial, ?_⟩
  refine g_on rfl rfl rfl <| not_ rfl <| pkf (.bool _) rfl rfl <| mvb rfl <| g_on rfl rfl rfl <| mvl rfl <| g_on rfl rfl rfl <| mvl rfl <| g_on rfl rfl rfl <| cal (sameCommands_ct ((ob).vs) ((oc).vs) Lb Lc (Ow.vs_ok hob) (Ow.vs_ok hoc) hokob hokoc (by first | exact heb.trans hec.symm | exact (Sum.inr.inj (hA.symm.trans (congrArg Sum.inr hec.symm))) | exact hec.symm) (by omega) hcb) [] [0, 1, 2, 3, 4, 5, 6] [_, _, _, _, _, _, _] rfl rfl rfl (by kernel_rfl) (impl_cons (ow_impl 7 rfl) (impl_cons (impl_at 8 rfl) (impl_cons (ow_impl 9 rfl) (impl_at 10 rfl)))) rfl ?_; rintro _ _ _ ⟨rfl, rfl, rfl⟩; refine ⟨trivial, ?_⟩
  refine g_on rfl rfl rfl <| not_ rfl <| pkf (.bool _) rfl rfl <| jt <| c_false rfl <| c_skip <| e_then <| csr <| mvl rfl <| cal (spoil_ct oa La hoa hokoa hla hca) [0, 1] [2, 3, 4, 5, 6] [_, _, _, _, _] rfl rfl rfl (by kernel_rfl) impl_nil rfl ?_; rintro _ _ _ ⟨oz, Pz, hoz, ⟨hzadr, hzcap⟩, hokz, hzh, hzm, rfl, rfl, rfl⟩; refine ⟨trivial, ?_⟩
  refine jsr <| mvl rfl <| cal (marked_ct oz La Pz hoz hokz hzh hzm hla hca) [5, 6] [0, 1, 2, 3, 4] [_, _, _, _, _] rfl (hx_cons rfl (show Value.slice oa.adr (List.map CmdO.h La).length oa.cap = Value.slice oz.adr (List.map CmdO.h La).length oz.cap by rw [hzadr, hzcap]) rfl) rfl (by kernel_rfl) impl_nil rfl ?_; rintro _ _ _ ⟨rfl, rfl, rfl⟩; refine ⟨trivial, ?_⟩
  refine mvb rfl <| g_on rfl rfl rfl <| mvl rfl <| g_on rfl rfl rfl <| mvl rfl <| g_on rfl rfl rfl <| cal (sameCommands_ct ((ob).vs) ((oc).vs) Lb Lc (Ow.vs_ok hob) (Ow.vs_ok hoc) hokob hokoc (by first | exact heb.trans hec.symm | exact (Sum.inr.inj (hA.symm.trans (congrArg Sum.inr hec.symm))) | exact hec.symm) (by omega) hcb) [] [0, 1, 2, 3, 4, 5, 6] [_, _, _, _, _, _, _] rfl rfl rfl (by kernel_rfl) (impl_cons (ow_impl 5 rfl) (impl_cons (impl_at 6 rfl) (impl_cons (ow_impl 7 rfl) (impl_at 8 rfl)))) rfl ?_; rintro _ _ _ ⟨rfl, rfl, rfl⟩; refine ⟨trivial, ?_⟩
  refine pkt (.bool _) rfl rfl <| agb rfl <| jt <| c_ret ?_
  exact j_d (own0 := []) (ro0 := [tPow10 9, tDb64 11, tIf 7 eu ev, tIf 8 ru rv, [(0, .view 0 [.iface 119 (.agg #[.pointer (some ⟨13, 24, none⟩)])])]]) (.inl rfl) rfl (hr1 Tryz.results3 (rvt (v := (.bool _)) rfl)) [0, 1, 2, 3, 4, 5, 6] [_, _, _, _, _, _, _] rfl (by kernel_rfl) rfl (⟨rfl, rfl, rfl⟩)
 ·refine ⟨trivial, ?_⟩
  refine mv (.tuple _) rfl <| xtr (.slice _ _ _) rfl rfl <| xtr (.iface _ _) rfl rfl <| agl rfl <| asg (.iface _ _) rfl <| jsr <| mvs rfl <| cal (LParse_no s hs eu ev ru rv hB) [] [0] [_] rfl rfl rfl (by kernel_rfl) (impl_cons (impl_at 0 rfl) (impl_cons (impl_at 1 rfl) (impl_cons (impl_at 2 rfl) (impl_cons (impl_at 3 rfl) impl_nil)))) rfl ?_; rintro _ _ _ ⟨fb, rfl, rfl, rfl⟩; refine ⟨trivial, ?_⟩
  refine mv (.tuple _) rfl <| xtr (.slice _ _ _) rfl rfl <| xtr (.iface _ _) rfl rfl <| agl rfl <| asg (.iface _ _) rfl <| jsr <| mvs rfl <| cal (RefParse_no s hs hB) [] [0, 1] [_, _] rfl rfl rfl (by kernel_rfl) (impl_cons (impl_at 0 rfl) (impl_cons (impl_at 1 rfl) impl_nil)) rfl ?_; rintro _ _ _ ⟨hfe, rfl, rfl, rfl⟩; refine ⟨trivial, ?_⟩
  refine mv (.tuple _) rfl <| xtr (.slice _ _ _) rfl rfl <| xtr (.agg _) rfl rfl <| alo [pt (0 : Int), pt (0 : Int), pt (0 : Int)] _ z29 rfl fun b8 => ⟨trivial, ?_⟩
  refine agl rfl <| stw 2 _ [pt (fl : Int), pt (fat : Int), pt (fe : Int)] rfl rfl rfl rfl ty29 ⟨trivial, ?_⟩
  refine jt <| c_seq <| csr <| mv (.iface _ _) rfl <| ldw 2 _ rfl rfl ty29 <| cal (faulty_ct fa fl fat fe hfe) [] [0, 1, 2] [_, _, _] rfl rfl rfl (by kernel_rfl) (impl_cons (impl_at 5 rfl) (impl_cons (impl_at 4 rfl) impl_nil)) rfl ?_; rintro _ _ _ ⟨rfl, rfl, rfl⟩; refine ⟨trivial, ?_⟩
  refine not_ rfl <| mvb rfl <| g_on rfl rfl rfl <| mv (.iface _ _) rfl <| g_on rfl rfl rfl <| ldw 2 _ rfl rfl ty29 <| g_on rfl rfl rfl <| cal (faulty_ct fb fl fat fe hfe) [] [0, 1, 2] [_, _, _] rfl rfl rfl (by kernel_rfl) (impl_cons (impl_at 6 rfl) (impl_cons (impl_at 4 rfl) impl_nil)) rfl ?_; rintro _ _ _ ⟨rfl, rfl, rfl⟩; refine ⟨trivial, ?_⟩
  refine g_on rfl rfl rfl <| not_ rfl <| pkf (.bool _) rfl rfl <| mvb rfl <| g_on rfl rfl rfl <| mvl rfl <| g_on rfl rfl rfl <| mvl rfl <| g_on rfl rfl rfl <| cal (sameCommands_ct (⟨true, 0, 0, 0, none⟩ : Vs) (⟨true, 0, 0, 0, none⟩ : Vs) [] [] nilrow_ok nilrow_ok (fun c hc => by cases hc) (fun c hc => by cases hc) rfl (by decide) (fun c hc => by cases hc)) [] [0, 1, 2] [_, _, _] rfl rfl rfl (by kernel_rfl) (impl_cons impl_nilrow (impl_cons impl_empty (impl_cons impl_nilrow impl_empty))) rfl ?_; rintro _ _ _ ⟨rfl, rfl, rfl⟩; refine ⟨trivial, ?_⟩
  refine g_on rfl rfl rfl <| not_ rfl <| pkf (.bool _) rfl rfl <| mvb rfl <| g_on rfl rfl rfl <| mvl rfl <| g_on rfl rfl rfl <| mvl rfl <| g_on rfl rfl rfl <| cal (sameCommands_ct (⟨true, 0, 0, 0, none⟩ : Vs) (⟨true, 0, 0, 0, none⟩ : Vs) [] [] nilrow_ok nilrow_ok (fun c hc => by cases hc) (fun c hc => by cases hc) rfl (by decide) (fun c hc => by cases hc)) [] [0, 1, 2] [_, _, _] rfl rfl rfl (by kernel_rfl) (impl_cons impl_nilrow (impl_cons impl_empty (impl_cons impl_nilrow impl_empty))) rfl ?_; rintro _ _ _ ⟨rfl, rfl, rfl⟩; refine ⟨trivial, ?_⟩
  refine g_on rfl rfl rfl <| not_ rfl <| pkf (.bool _) rfl rfl <| jt <| c_false rfl <| c_skip <| e_then <| c_seq <| c_addE <| c_addE <| c_reg <| mvl rfl <| cal (spoil_ct Ow.nil [] Ow.nil_ok (fun c hc => by cases hc) (by decide) (fun c hc => by cases hc)) [3, 4] [0, 1, 2] [_, _, _] rfl rfl rfl (by kernel_rfl) impl_nil rfl ?_; rintro _ _ _ ⟨oz, Pz, hoz, ⟨hzadr, hzcap⟩, hokz, hzh, hzm, rfl, rfl, rfl⟩; refine ⟨trivial, ?_⟩
  refine jsr <| mvl rfl <| cal (marked_ct oz [] Pz hoz hokz hzh hzm (by decide) (fun c hc => by cases hc)) [3, 4] [0, 1, 2] [_, _, _] rfl (hx_cons rfl (show Value.slice Ow.nil.adr (List.map CmdO.h []).length Ow.nil.cap = Value.slice oz.adr (List.map CmdO.h []).length oz.cap by rw [hzadr, hzcap]) rfl) rfl (by kernel_rfl) impl_nil rfl ?_; rintro _ _ _ ⟨rfl, rfl, rfl⟩; refine ⟨trivial, ?_⟩
  refine mvb rfl <| g_on rfl rfl rfl <| mvl rfl <| g_on rfl rfl rfl <| mvl rfl <| g_on rfl rfl rfl <| cal (sameCommands_ct (⟨true, 0, 0, 0, none⟩ : Vs) (⟨true, 0, 0, 0, none⟩ : Vs) [] [] nilrow_ok nilrow_ok (fun c hc => by cases hc) (fun c hc => by cases hc) rfl (by decide) (fun c hc => by cases hc)) [] [0, 1, 2, 3, 4] [_, _, _, _, _] rfl rfl rfl (by kernel_rfl) (impl_cons impl_nilrow (impl_cons impl_empty (impl_cons impl_nilrow impl_empty))) rfl ?_; rintro _ _ _ ⟨rfl, rfl, rfl⟩; refine ⟨trivial, ?_⟩
  refine pkt (.bool _) rfl rfl <| agb rfl <| jt <| c_ret ?_
  exact j_d (own0 := []) (ro0 := [tPow10 9, tDb64 11, tIf 7 eu ev, tIf 8 ru rv, [(0, .view 0 [.iface 119 (.agg #[.pointer (some ⟨13, 24, none⟩)])])]]) (.inl rfl) rfl (hr1 Tryz.results3 (rvt (v := (.bool _)) rfl)) [0, 1, 2, 3, 4] [_, _, _, _, _] rfl (by kernel_rfl) rfl (⟨rfl, rfl, rfl⟩)
end Go.Proofs.YtakbbpahfclgnaaGreatDoor
namespace Go.Proofs.YtakbbpahfclgnaaGreatDoor
open Go Go.ChangeShapes Go.WideShapes Go.ChangeAt Go.RowKit Go.PW
open Go.PW.Enc (enc val)
theorem own : ownKnob Tryz.prog.godebug = none := by kernel_rfl
theorem kids : Kids Tryz.prog (· < Tryz.prog.types.size) := kids_rows (by kernel_rfl) (by kernel_rfl)
theorem full : ∀ t e, t < Tryz.prog.types.size → Tryz.prog.underlying t = some (.slice e) → 0 < Tryz.prog.cellsOf e := slices_full_of _ (by kernel_rfl)
theorem gP : Tryz.prog.globalNamed "internal/strconv.uint64pow10" = some 9 := by kernel_rfl
theorem gD : Tryz.prog.globalNamed "math/bits.deBruijn64tab" = some 11 := by kernel_rfl
theorem tgP : (Tryz.prog.globals[9]?).map (·.type) = some 227 := by kernel_rfl
theorem tgD : (Tryz.prog.globals[11]?).map (·.type) = some 235 := by kernel_rfl
set_option maxRecDepth 100000 in
theorem laid_pow10 {W : World} {l : List (String × DataW Unit)} {ps : List MemPlace} (h : DataW.LaidVars Tryz.prog W l ps) (hm : ("internal/strconv.uint64pow10", Rows.laid_internal_strconv_uint64pow10) ∈ l) : SegIn W (tPow10 9) :=
  laid_row (⟨pow10L, by kernel_rfl⟩ : Arr UInt64 20) gP tgP (opnD_arr Tryz.underlying227 (by kernel_rfl) (by kernel_rfl) (opnD_u64 Tryz.underlying72)) (fun h => dU64_inj h) (by kernel_rfl) (laid_one h hm)
set_option maxRecDepth 100000 in
theorem laid_db64 {W : World} {l : List (String × DataW Unit)} {ps : List MemPlace} (h : DataW.LaidVars Tryz.prog W l ps) (hm : ("math/bits.deBruijn64tab", Rows.laid_math_bits_deBruijn64tab) ∈ l) : SegIn W (tDb64 11) :=
  laid_row (⟨dbL, by kernel_rfl⟩ : Arr UInt8 64) gD tgD (opnD_arr Tryz.underlying235 (by kernel_rfl) (by kernel_rfl) (opnD_u8 Tryz.underlying5)) (fun h => dU8_inj h) (by kernel_rfl) (laid_one h hm)
theorem gES : Tryz.prog.globalNamed "strconv.ErrSyntax" = some 7 := by kernel_rfl
theorem gER : Tryz.prog.globalNamed "strconv.ErrRange" = some 8 := by kernel_rfl
theorem tgES : (Tryz.prog.globals[7]?).map (·.type) = some 24 := by kernel_rfl
theorem tgER : (Tryz.prog.globals[8]?).map (·.type) = some 24 := by kernel_rfl
theorem laid_es {W : World} {l : List (String × DataW Unit)} {ps : List MemPlace} (h : DataW.LaidVars Tryz.prog W l ps) (hm : ("strconv.ErrSyntax", Rows.laid_strconv_ErrSyntax) ∈ l) : ∃ u v, SegIn W (tIf 7 u v) := laid_if gES tgES Tryz.underlying24 (laid_one h hm)
theorem laid_er {W : World} {l : List (String × DataW Unit)} {ps : List MemPlace} (h : DataW.LaidVars Tryz.prog W l ps) (hm : ("strconv.ErrRange", Rows.laid_strconv_ErrRange) ∈ l) : ∃ u v, SegIn W (tIf 8 u v) := laid_if gER tgER Tryz.underlying24 (laid_one h hm)
theorem etN : Tryz.prog.globalNamed "errors.errorType" = some 0 := by kernel_rfl
theorem rtN : (Tryz.prog.cutTypes.find? (·.1 == "internal/reflectlite.rtype")).map (·.2) = some 119 := by kernel_rfl
theorem sizeN : Tryz.prog.types.size = 261 := by kernel_rfl
theorem laid_et {W : World} {hs : List (String × DataW Unit)} (h : handlesMet Tryz.prog hs W) (hm : ("errors.errorType", Rows.laid_errors_errorType) ∈ hs) : SegIn W [(0, .view 0 [.iface 119 (.agg #[.pointer (some ⟨13, 24, none⟩)])])] := by
  obtain ⟨name, u, ty, e1, e2, e3, e4, e5⟩ := h _ hm
  have en : name = [101, 114, 114, 111, 114] := (Option.some.inj e1).symm
  subst en
  obtain rfl := Option.some.inj (rtN.symm.trans e2)
  have hm : ty ∈ (List.range 261).filter fun t => Tryz.prog.rowNamed t [101, 114, 114, 111, 114] := List.mem_filter.2 ⟨List.mem_range.2 (by rw [← sizeN]; exact e3), e4⟩
  rw [errType_row] at hm
  obtain rfl := List.mem_singleton.1 hm
  have hh : typeHandle Tryz.prog 24 = .pointer (some ⟨13, 24, none⟩) := by kernel_rfl
  rw [hh] at e5
  intro q hq
  rw [List.mem_singleton] at hq; subst hq
  unfold World.var? at e5
  rw [etN] at e5
  simp only [Option.bind_some] at e5
  cases hc : W.heap[0]? with
  | none => rw [hc] at e5; cases e5
  | some o =>
    rw [hc] at e5
    cases o with
    | cells c E fr =>
      simp only [Option.some.injEq] at e5
      subst e5
      exact ⟨_, rfl, _, _, _, rfl, fun i v hv => by rw [Nat.zero_add]; simpa using hv⟩
    | _ => cases e5
noncomputable def laidW (os : Os) : World :=
  { World.doorLaid Tryz.prog 400 os with heap := (World.doorLaid Tryz.prog 400 os).heap.modify 5 fun
      | .cells _ t fr => .cells ⟨encs firstL⟩ t fr
      | o => o }
end Go.Proofs.YtakbbpahfclgnaaGreatDoor
namespace Go.Proofs.YtakbbpahfclgnaaGreatDoor
open Go Go.ChangeShapes Go.WideShapes Go.ChangeAt Go.RowKit Go.PW
open Go.PW.Enc (enc val)
set_option maxRecDepth 100000 in
theorem labParses_met (os : Os) (args : Array Value) : laidMetH Tryz.prog Rows.labParsesRow.laid ((laidW os).forCall (fun _ _ => 0) ⟨#[], args, []⟩).memory :=
  laidMetH_of_parts3 (fuel := 8) (laidMet_of_run' 8 (by kernel_rfl) (by kernel_rfl)) (by kernel_rfl) (by kernel_rfl)
set_option maxRecDepth 100000 in
theorem labParses_lifted (os : Os) (started : os.Started) (H : Type) (enc : TypeId × Value → H) :
    ReturnsInHanded {} Tryz.checked os 3 .any (fun w args => (Rows.labParsesSpec.pre enc Tryz.prog Tryz.f3 [] false w args ∧ laidMetH Tryz.prog Rows.labParsesRow.laid w) ∧ sizedMet enc Tryz.prog Tryz.f3 (OpenSpec.ofChange Rows.labParsesSpec) false w args)
      (Rows.labParsesSpec.post enc Tryz.prog Tryz.f3 false true false false) := by
  refine returnsInHanded_of_change_and (C := Tryz.checked) (X := fun w _ => laidMetH Tryz.prog Rows.labParsesRow.laid w) (fun _ _ _ hh h => h.of_heap hh) own started (by kernel_rfl) Tryz.func3
    (ChangeSpec.witness_shaped (enc := enc) (C := Tryz.checked) (os := os) (X := fun w _ => laidMetH Tryz.prog Rows.labParsesRow.laid w) false (laidW os) #[strV []] 40 rfl (World.shaped_of_RefB (by kernel_rfl) (by kernel_rfl)) (by kernel_rfl) (by kernel_rfl) (by kernel_rfl) (labParses_met os _)) ?_
  intro W base args ds gs before hval0 hW _ hwt hL _
  have hval : ∀ (j : Nat) t v, Tryz.f3.params[j]? = some t → args[j]? = some v → Value.okWide Tryz.prog W .any base t v := hval0
  have hW' := hW
  obtain ⟨p, q, hA0, hV, rfl, hfz, hnd⟩ := hW
  have hA : DataW.TrodAll enc Tryz.prog W 0 (fun _ => true) true Tryz.f3.params.toList args.toList ds p := hA0
  rw [Tryz.params3] at hA hval
  obtain ⟨v0, vs0, d0, ds0, p0, q0, hargs, rfl, rfl, h0, r0⟩ := trodAll_cons hA
  obtain ⟨rfl, rfl, rfl⟩ := trodAll_nil r0
  obtain rfl : args = #[v0] := by cases args; simp_all
  obtain ⟨rfl, rfl⟩ := trodVars_none hV
  obtain ⟨s0, rfl, rfl, rfl, _⟩ := Go.ChangeMaps.open_string Tryz.underlying9 (hval 0 9 v0 rfl rfl) h0
  have hs : s0.data.toList.length ≤ 140737488351232 := sized_string hwt (j := 0) (t := 9) (by rw [Tryz.params3]; rfl) rfl
  have hl : laidMet Tryz.prog (Rows.labParsesRow.laid.filter fun x => x.2.handleName?.isNone) W ∧ handlesMet Tryz.prog (Rows.labParsesRow.laid.filter fun x => x.2.handleName?.isSome) W := hL
  obtain ⟨⟨ps, hl, _⟩, hh⟩ := hl
  have ha := laid_pow10 hl (List.mem_filter.2 ⟨by simp [Rows.labParsesRow], by kernel_rfl⟩)
  have hb2 := laid_db64 hl (List.mem_filter.2 ⟨by simp [Rows.labParsesRow], by kernel_rfl⟩)
  have hc := laid_es hl (List.mem_filter.2 ⟨by simp [Rows.labParsesRow], by kernel_rfl⟩)
  have hd := laid_er hl (List.mem_filter.2 ⟨by simp [Rows.labParsesRow], by kernel_rfl⟩)
  have he := laid_et hh (List.mem_filter.2 ⟨by simp [Rows.labParsesRow], by kernel_rfl⟩)
  obtain ⟨eu, ev, hc⟩ := hc
  obtain ⟨ru, rv, hd⟩ := hd
  have hct := (LabParses_ct s0.data.toList hs eu ev ru rv).2 W ⟨by simp, by simpa using ⟨ha, hb2, hc, hd, he⟩, by simp [blks], by simp [blks]⟩
  refine hct.mono fun e W' ⟨v, own', ro', he, hp, hin⟩ => ⟨v, he, ?_⟩
  obtain ⟨rfl, _, _⟩ := hp
  exact law_post kids full (by rw [Tryz.params3]; decide) hW' rfl hin.ext rfl (by kernel_rfl) Tryz.underlying4
set_option maxRecDepth 100000 in
theorem labParses_over : Rows.labParsesRow.holds Tryz.pinned (OpenSpec.ofChange Rows.labParsesSpec) :=
  OpenClaim.holds_of_wide 3 Tryz.f3 rfl rfl rfl rfl rfl rfl rfl ⟨rfl, rfl, rfl, rfl, rfl⟩ rfl rfl rfl rfl rfl (by kernel_rfl) Tryz.func3 (by kernel_rfl)
    (of_decide_eq_true (by kernel_rfl)) (by unfold Func.isWrapper; first | (rw [if_pos (by decide +kernel)]; kernel_rfl) | (rw [if_neg (by decide +kernel)]; exact ⟨rfl, rfl⟩))
    (fun os started H enc _ => labParses_lifted os started H enc)
set_option maxRecDepth 100000 in
/-- The statement: the tied card. -/
theorem labParses_holds : Rows.LabParsesCardSaid :=
  Claim7.holds_tied_plain_at .later [] [.data, .data, .data, .data, .handle, .sentinel, .sentinel, .pinned] true (true, "1b837f70c8c69c5692803a02391dce862d29d702cfdb9e97faeb7e5190eafee9") true
    labParses_over (fun _ h => by cases h) (by kernel_rfl) (fun _ h => by cases h) labParses_row_tie rfl ⟨rfl, rfl⟩ (by kernel_rfl) rfl
    (fun f fn hf hfn => by
      obtain rfl : f = 3 := Option.some.inj ((show Tryz.prog.funcNamed "pawl/pawllaw16.LabParses" = some 3 by kernel_rfl).symm.trans hf) |>.symm
      obtain rfl : fn = Tryz.f3 := (Option.some.inj (Tryz.func3.symm.trans hfn)).symm
      exact ⟨by kernel_rfl, fun j t ht => by
        rw [Tryz.params3] at ht
        have hm : t ∈ [9] := by simpa using Array.mem_of_getElem? ht
        have hall : ([9].all fun u => !Tryz.prog.wantsStandIn u) = true := by kernel_rfl
        exact (show Tryz.prog.wantsStandIn t = false by simpa using List.all_eq_true.1 hall t hm)⟩)
    (by kernel_rfl)
#print axioms labParses_holds
end Go.Proofs.YtakbbpahfclgnaaGreatDoor
