/- Laws of an engine and of the program's functions, gathered. No condition. -/
import Derived.Test.YtakbbpahfclgnaaGreatDoorV5
import Derived.Test.YtakbbpahfclgnaaGreatDoorProg
import Derived.Test.YtakbbpahfclgnaaGreatDoorRows
import Derived.WalkKit
import Derived.ProofKit
import Derived.OpenShut
import Derived.LaidHandle
import Derived.ChangeBears2
import Derived.Test.YtakbbpahfclgnaaGreatDoorTie
import Derived.Test.YtakbbpahfclgnaaGreatDoorCards
import Derived.SevenTiedAt
import Derived.ChangeMaps5
open Go.Proofs.Tryz renaming underlying9 → uy9, underlying22 → uy22, underlying24 → uy24, underlying29 → uy29, underlying37 → uy37, underlying39 → uy39, underlying40 → uy40, underlying46 → uy46, underlying49 → uy49, underlying53 → uy53
set_option maxRecDepth 20000
set_option maxHeartbeats 4000000
namespace Go.Proofs.YtakbbpahfclgnaaGreatDoor
open Go Go.Proofs Go.PW
open Go.PW.Enc (enc val)
theorem RefParse28_ct (s : Str) (hs : s.length ≤ 140737488351232) : Ct Tryz.prog 12 [strV s] [] [tPow10 9, tDb64 11] (fun v w r => (∃ (L : List CmdO) (o' : Ow), scriptR fit28 form28 [116, 111, 119, 110] 280 s = .inr (L.map CmdO.cm) ∧ okL L ∧ o'.ok (List.map CmdO.h L) ∧ L.length ≤ 400 ∧ (∀ c ∈ L, c.args.length ≤ 6) ∧ v = .tuple #[.slice o'.adr (List.map CmdO.h L).length o'.cap, .agg ⟨cat [pt (0 : Int), pt (0 : Int), pt (0 : Int)]⟩] ∧ w = [o'.seg (List.map CmdO.h L) 39, argsS 9 L] ∧ r = []) ∨ (∃ (l a e : Nat), scriptR fit28 form28 [116, 111, 119, 110] 280 s = .inl (l, a, e) ∧ 0 < e ∧ v = .tuple #[.slice none 0 0, .agg ⟨cat [pt (l : Int), pt (a : Int), pt (e : Int)]⟩] ∧ w = [] ∧ r = [])) := by
 have HLI : (linesL s).length ≤ s.length := linesL_len _ s (Nat.le_refl _)
 refine ct_enter Tryz.func12 rfl Tryz.ntmps12 (by kernel_rfl) rfl fun w0 => ?_
 refine csr <| agl rfl <| alo [pt (0 : Int), pt (0 : Int), pt (0 : Int)] _ z29 rfl fun b3 => ⟨trivial, ?_⟩
 refine jt <| c_seq <| csr <| mvs rfl <| lenT (s := s) rfl uy9 <| cmp _ rfl rfl rfl <| jt <| c_cond rfl (fun h1 => ?_) (fun h1 => ?_)
 ·replace h1 := of_decide_eq_true h1
  refine csr <| bld [pt (0 : Int), pt (0 : Int), pt (0 : Int)] [(2, pt (2 : Int))] _ uy29 (lay29 _ uy29) z29 rfl rfl rfl <| agl rfl <| stw 0 _ [pt (0 : Int), pt (0 : Int), pt (2 : Int)] rfl rfl rfl rfl ty29 ⟨trivial, ?_⟩
  refine jt <| c_ret ?_
  exact j_d (own0 := []) (ro0 := [tPow10 9, tDb64 11]) (.inl rfl) rfl (hr2 Tryz.results12 (rvt (v := (.slice _ _ _)) rfl) (rvc (p := pa [pt (0 : Int), pt (0 : Int), pt (2 : Int)]) 0 rfl rfl rfl ty29)) [0] [_] rfl (by kernel_rfl) rfl (.inr ⟨0, 0, 2, scriptR_long (by omega), by decide, rfl, rfl, rfl⟩)
 ·replace h1 := of_decide_eq_false h1
  refine c_skip <| e_then <| csr <| agl rfl <| jsr <| mvs rfl <| cal (Lines_ct s (by omega)) [] [0] [_] rfl rfl rfl (by kernel_rfl) impl_nil rfl ?_; rintro _ _ _ ⟨ol, hol, rfl, rfl, rfl⟩; refine ⟨trivial, ?_⟩
  refine agl rfl <| jt <| c_seq <| csr <| agi rfl <| jt <| c_block <| c_addE <| c_addE <| c_loop (σ := Nat × List CmdO × Ow) (fun (i, L, o) => i ≤ (linesL s).length ∧ okL L ∧ o.ok (List.map CmdO.h L) ∧ L.length ≤ 400 ∧ (∀ c ∈ L, c.args.length ≤ 6) ∧ scriptL fit28 form28 [116, 111, 119, 110] 280 (linesL s) 0 [] = scriptL fit28 form28 [116, 111, 119, 110] 280 (List.drop i (linesL s)) i (List.map CmdO.cm L)) (fun (i, L, o) => (linesL s).length - i) (fun (i, L, o) => [(6, .int .i64 (i : Int)), (4, .slice o.adr (List.map CmdO.h L).length o.cap)]) (fun (i, L, o) => [[(b3, .cells (cat [pt (0 : Int), pt (0 : Int), pt (0 : Int)]) 29)], ol.seg (linesL s) 9, o.seg (List.map CmdO.h L) 39, argsS 9 L]) (fun (i, L, o) => [tPow10 9, tDb64 11]) [2, 4, 6, 7, 8, 9, 10, 17, 18, 19, 20, 21, 22, 23, 24, 25, 26, 27, 28, 29, 30, 31, 32, 33, 34, 35, 36, 37, 38, 39, 40, 41, 42, 43, 44, 45, 46, 47, 48, 49, 50, 51, 52, 53, 54, 55, 56, 57, 58, 59, 60, 61, 62, 63, 64, 65, 66, 67, 68, 69, 70, 71, 72, 73, 74, 75, 76, 77, 78, 79, 80, 81, 82, 83] (0, [], Ow.nil) (⟨Nat.zero_le _, (fun c hc => by cases hc), Ow.nil_ok, Nat.zero_le _, (fun c hc => by cases hc), rfl⟩) ⟨rfl, rfl, trivial⟩ rfl rfl ?_
  rintro ⟨i, L, o⟩ g1 hI1
  try dsimp only at hI1 ⊢
  have HL4 := hI1.2.2.2.1
  have HSC := hI1.2.2.2.2.2
  refine c_seq <| csr <| mvi rfl <| mvl rfl <| lenS rfl uy37 <| cmp _ rfl rfl rfl <| jt <| c_cond rfl (fun h2 => ?_) (fun h2 => ?_)
  ·replace h2 := of_decide_eq_true h2
   refine c_skip <| e_then <| c_seq <| c_block <| c_seq <| c_seq ?_
   have HGL := getD_line (s := s) (i := i) (by omega)
   refine c_reg <| mvl rfl <| mvi rfl <| ixs ((ol).vs) (linesL s) i (Ow.vs_ok hol) rfl rfl rfl uy37 ty9.sz rfl (by first | omega | (simp; done) | (simp; omega) | (simp at *; omega)) <| ldsoG 1 (List.getD (linesL s) i []) hol rfl rfl rfl rfl (getD_some (by first | omega | (simp; done) | (simp; omega) | (simp at *; omega))) ty9 <| lenT (s := (List.getD (linesL s) i [])) rfl uy9 <| cmp _ rfl rfl rfl <| jt <| c_cond rfl (fun h3 => ?_) (fun h3 => ?_)
   ·replace h3 := of_decide_eq_true h3
    refine csr <| mvi rfl <| addi rfl rfl rfl (by omega) <| bld [pt (0 : Int), pt (0 : Int), pt (0 : Int)] [(0, p1 (.int .i64 ((i : Int) + 1))), (1, pt (4000 : Int)), (2, pt (2 : Int))] _ uy29 (lay29 _ uy29) z29 rfl rfl rfl <| agl rfl <| stw 0 _ [p1 (.int .i64 ((i : Int) + 1)), pt (4000 : Int), pt (2 : Int)] rfl rfl rfl rfl ty29 ⟨trivial, ?_⟩
    refine jt <| c_ret ?_
    exact j_d (own0 := []) (ro0 := [tPow10 9, tDb64 11]) (.inl rfl) rfl (hr2 Tryz.results12 (rvt (v := (.slice _ _ _)) rfl) (rvc (p := pa [p1 (.int .i64 ((i : Int) + 1)), pt (4000 : Int), pt (2 : Int)]) 0 rfl rfl rfl ty29)) [0, 1, 2, 3] [_, _, _, _] rfl (by kernel_rfl) rfl (.inr ⟨i + 1, 4000, 2, (scriptR_in (by omega)).trans (HSC.trans (script_bad (by omega) (line_long (by omega)))), by first | decide | omega, rfl, rfl, rfl⟩)
   ·replace h3 := of_decide_eq_false h3
    refine c_skip <| e_then <| csr <| mvl rfl <| mvi rfl <| ixs ((ol).vs) (linesL s) i (Ow.vs_ok hol) rfl rfl rfl uy37 ty9.sz rfl (by first | omega | (simp; done) | (simp; omega) | (simp at *; omega)) <| ldsoG 1 (List.getD (linesL s) i []) hol rfl rfl rfl rfl (getD_some (by first | omega | (simp; done) | (simp; omega) | (simp at *; omega))) ty9 <| cal (Words_ct (List.getD (linesL s) i []) (by omega)) [] [0, 1, 2, 3] [_, _, _, _] rfl rfl rfl (by kernel_rfl) impl_nil rfl ?_; rintro _ _ _ ⟨ow1, how1, rfl, rfl, rfl⟩; refine ⟨trivial, ?_⟩
    refine agl rfl <| jt <| c_seq <| csr <| mvl rfl <| lenS rfl uy46 <| cmp _ rfl rfl rfl <| mvb rfl <| jsplit 40 rfl (fun h4 => ?_) (fun h4 => ?_)
    ·replace h4 := of_decide_eq_true h4
     refine g_off rfl rfl rfl rfl <| g_off rfl rfl rfl rfl <| g_off rfl rfl rfl rfl <| g_off rfl rfl rfl rfl <| g_off rfl rfl rfl rfl <| g_off rfl rfl rfl rfl <| pkt (.bool _) rfl rfl <| jt <| c_true rfl <| c_exit rfl <| e_then <| c_reg <| mvi rfl <| addi rfl rfl rfl (by omega) <| agi rfl <| jn <| e_keep [0, 1, 2, 3] [4] [_, _, _, _] rfl (by kernel_rfl) ?_
     exact e_loop (i + 1, L, o) (⟨by omega, hI1.2.1, hI1.2.2.1, hI1.2.2.2.1, hI1.2.2.2.2.1, HSC.trans (script_none (by omega) (line_blank (by omega) (words_no (by omega))))⟩) (by show (linesL s).length - (i + 1) < (linesL s).length - i; omega) (⟨rfl, rfl, trivial⟩) rfl rfl rfl
    ·replace h4 := of_decide_eq_false h4
     refine g_on rfl rfl rfl <| mvl rfl ?_
     obtain ⟨a0, wd, r, hw⟩ := words_ne (s := (List.getD (linesL s) i [])) (by omega)
     have HWM := wordsL_mem _ (List.getD (linesL s) i []) 0 (Nat.le_refl _) (a0, wd) (by rw [hw]; exact List.mem_cons_self ..)
     dsimp only at HWM
     refine g_on rfl rfl rfl <| ixs ((ow1).vs) ((wordsL (List.getD (linesL s) i []) 0).map toW) 0 (Ow.vs_ok how1) rfl rfl rfl uy46 ty49.sz rfl (by rw [ws_len hw]; omega) <| g_on rfl rfl rfl <| fad rfl uy49 rfl ty9.sz <| g_on rfl rfl rfl <| ldsofG 4 1 (toW (a0, wd)) _ how1 rfl rfl rfl (by rw [hw]; rfl) rfl rfl ty9 <| g_on rfl rfl rfl <| idxT (s := wd) 0 rfl rfl uy9 rfl (by first | omega | (simp; done) | (simp; omega) | (simp at *; omega)) <| g_on rfl rfl rfl <| equ8 (a := (List.getD wd 0 0)) (b := (35 : UInt8)) _ rfl rfl rfl <| pkf (.bool _) rfl rfl <| jt <| c_cond rfl (fun h5 => ?_) (fun h5 => ?_)
     ·replace h5 := of_decide_eq_true h5
      refine c_exit rfl <| e_then <| c_reg <| mvi rfl <| addi rfl rfl rfl (by omega) <| agi rfl <| jn <| e_keep [0, 1, 2, 3] [4] [_, _, _, _] rfl (by kernel_rfl) ?_
      exact e_loop (i + 1, L, o) (⟨by omega, hI1.2.1, hI1.2.2.1, hI1.2.2.2.1, hI1.2.2.2.2.1, HSC.trans (script_none (by omega) (line_note (by omega) hw (by assumption)))⟩) (by show (linesL s).length - (i + 1) < (linesL s).length - i; omega) (⟨rfl, rfl, trivial⟩) rfl rfl rfl
     ·replace h5 := of_decide_eq_false h5
      refine c_skip <| e_then <| c_seq <| csr <| mvl rfl <| lenS rfl uy22 <| j_re 49 (.int .i64 (L.length : Int)) (congrArg (fun n : Nat => Value.int .i64 (n : Int)) (List.length_map ..)) <| cmp _ rfl rfl rfl <| jt <| c_cond rfl (fun h6 => ?_) (fun h6 => ?_)
      ·replace h6 := of_decide_eq_true h6
       refine csr <| mvi rfl <| addi rfl rfl rfl (by omega) <| bld [pt (0 : Int), pt (0 : Int), pt (0 : Int)] [(0, p1 (.int .i64 ((i : Int) + 1))), (2, pt (2 : Int))] _ uy29 (lay29 _ uy29) z29 rfl rfl rfl <| agl rfl <| stw 0 _ [p1 (.int .i64 ((i : Int) + 1)), pt (0 : Int), pt (2 : Int)] rfl rfl rfl rfl ty29 ⟨trivial, ?_⟩
       refine jt <| c_ret ?_
       exact j_d (own0 := []) (ro0 := [tPow10 9, tDb64 11]) (.inl rfl) rfl (hr2 Tryz.results12 (rvt (v := (.slice _ _ _)) rfl) (rvc (p := pa [p1 (.int .i64 ((i : Int) + 1)), pt (0 : Int), pt (2 : Int)]) 0 rfl rfl rfl ty29)) [0, 1, 2, 3, 4] [_, _, _, _, _] rfl (by kernel_rfl) rfl (.inr ⟨i + 1, 0, 2, (scriptR_in (by omega)).trans (HSC.trans (script_bad (by omega) (line_many (by omega) hw (by assumption) (by rw [List.length_map]; omega)))), by first | decide | omega, rfl, rfl, rfl⟩)
      ·replace h6 := of_decide_eq_false h6
       refine c_skip <| e_then <| csr <| mvl rfl <| mvi rfl <| ixs ((ol).vs) (linesL s) i (Ow.vs_ok hol) rfl rfl rfl uy37 ty9.sz rfl (by first | omega | (simp; done) | (simp; omega) | (simp at *; omega)) <| ldsoG 1 (List.getD (linesL s) i []) hol rfl rfl rfl rfl (getD_some (by first | omega | (simp; done) | (simp; omega) | (simp at *; omega))) ty9 <| mvl rfl <| mvl rfl <| lenS rfl uy22 <| j_re 61 (.int .i64 (L.length : Int)) (congrArg (fun n : Nat => Value.int .i64 (n : Int)) (List.length_map ..)) <| cal (command28_ct (List.getD (linesL s) i []) ((ow1).vs) L.length a0 wd r (Ow.vs_ok how1) hw (by omega) (by omega) (by assumption)) [] [0, 1, 2, 3, 4] [_, _, _, _, _] rfl rfl rfl (by kernel_rfl) (impl_cons (ow_impl 6 rfl) (impl_cons (impl_at 0 rfl) (impl_cons (impl_at 1 rfl) impl_nil))) rfl ?_; rintro _ _ _ (⟨cacc2, co2, hcl2, hco2, hcn2, rfl, rfl, rfl⟩ | ⟨ca2, ce2, hcl2, hcp2, hcb2, rfl, rfl, rfl⟩)
       ·refine ⟨trivial, ?_⟩
        refine mv (.tuple _) rfl <| xtr (.slice _ _ _) rfl rfl <| xtr (.int _ _) rfl rfl <| xtr (.int _ _) rfl rfl <| agl rfl <| agi rfl <| agi rfl <| jt <| c_seq <| csr <| mvi rfl <| cmp false rfl rfl rfl <| jt <| c_false rfl <| c_skip <| e_then <| c_reg <| mvl rfl <| mvi rfl <| addi rfl rfl rfl (by omega) <| mvl rfl <| ixs ((ow1).vs) ((wordsL (List.getD (linesL s) i []) 0).map toW) 0 (Ow.vs_ok how1) rfl rfl rfl uy46 ty49.sz rfl (by rw [ws_len hw]; omega) <| fad rfl uy49 rfl ty9.sz <| ldsofG 4 1 (toW (a0, wd)) _ how1 rfl rfl rfl (by rw [hw]; rfl) rfl rfl ty9 <| mvl rfl <| bld [pt (0 : Int), pt ([] : Str), p1 (.slice none 0 0)] [(0, p1 (.int .i64 ((i : Int) + 1))), (1, pt wd), (2, p1 (.slice co2.adr cacc2.length co2.cap))] _ uy39 (lay39 _ uy39) z39 rfl rfl rfl <| bsl (α := CmdH) ([CmdO.h ⟨i + 1, wd, cacc2, co2⟩]) uy22 ty39.sz rfl (by decide) z39 rfl fun b82 => ⟨trivial, ?_⟩
        refine app 2 o (List.map CmdO.h L) ([CmdO.h ⟨i + 1, wd, cacc2, co2⟩] : List CmdH) hI1.2.2.1 rfl ⟨rfl, rfl, rfl⟩ rfl rfl (gives_own (ys := ([CmdO.h ⟨i + 1, wd, cacc2, co2⟩] : List CmdH)) (pre := []) (post := []) 6 rfl (by simp) rfl) uy22 uy22 (.inl ⟨_, rfl⟩) ty39.sz by39 z39 rfl (by simp; omega) rfl fun o83_3 hk83_3 => ⟨trivial, ?_⟩
        refine agl rfl <| jn <| e_in <| e_then <| c_keep [0, 1, 2, 3, 5] [4, 6] [_, _, _, _, _] rfl (by kernel_rfl) <| c_part (own' := [[(b3, .cells (cat [pt (0 : Int), pt (0 : Int), pt (0 : Int)]) 29)], ol.seg (linesL s) 9, o83_3.seg ((List.map CmdO.h L) ++ ([CmdO.h ⟨i + 1, wd, cacc2, co2⟩] : List CmdH)) 39, argsS 9 (L ++ [⟨i + 1, wd, cacc2, co2⟩])]) (List.Perm.of_eq (by rw [argsS_app]; simp)) <| c_reg <| mvi rfl <| addi rfl rfl rfl (by omega) <| agi rfl <| jn ?_
        exact e_loop (i + 1, L ++ [⟨i + 1, wd, cacc2, co2⟩], o83_3) (⟨by omega, okL_app hI1.2.1 hco2, (by rw [List.map_append]; exact hk83_3), (by simp; omega), (fun c hc => by rcases List.mem_append.1 hc with hc | hc; exact hI1.2.2.2.2.1 c hc; rw [List.mem_singleton] at hc; subst hc; exact hcn2), HSC.trans ((script_cmd (by omega) (by rw [List.length_map]; exact hcl2)).trans (by rw [List.map_append]; rfl))⟩) (by show (linesL s).length - (i + 1) < (linesL s).length - i; omega) (⟨rfl, (by rw [List.map_append]; rfl), trivial⟩) rfl (by rw [List.map_append]; rfl) rfl
       ·have hnz2 : ((ce2 : Nat) : Int) ≠ 0 := (by omega); refine ⟨trivial, ?_⟩
        refine mv (.tuple _) rfl <| xtr (.slice _ _ _) rfl rfl <| xtr (.int _ _) rfl rfl <| xtr (.int _ _) rfl rfl <| agl rfl <| agi rfl <| agi rfl <| jt <| c_seq <| csr <| mvi rfl <| cmp true rfl rfl (by simp only [cmpV, hnz2]; simp) <| jt <| c_true rfl <| csr <| mvi rfl <| addi rfl rfl rfl (by omega) <| mvi rfl <| mvi rfl <| bld [pt (0 : Int), pt (0 : Int), pt (0 : Int)] [(0, p1 (.int .i64 ((i : Int) + 1))), (1, p1 (.int .i64 (ca2 : Int))), (2, p1 (.int .i64 ((ce2 : Nat) : Int)))] _ uy29 (lay29 _ uy29) z29 rfl rfl rfl <| agl rfl <| stw 0 _ [p1 (.int .i64 ((i : Int) + 1)), p1 (.int .i64 (ca2 : Int)), p1 (.int .i64 ((ce2 : Nat) : Int))] rfl rfl rfl rfl ty29 ⟨trivial, ?_⟩
        refine jt <| c_ret ?_
        exact j_d (own0 := []) (ro0 := [tPow10 9, tDb64 11]) (.inl rfl) rfl (hr2 Tryz.results12 (rvt (v := (.slice _ _ _)) rfl) (rvc (p := pa [p1 (.int .i64 ((i : Int) + 1)), p1 (.int .i64 (ca2 : Int)), p1 (.int .i64 ((ce2 : Nat) : Int))]) 0 rfl rfl rfl ty29)) [0, 1, 2, 3, 4] [_, _, _, _, _] rfl (by kernel_rfl) rfl (.inr ⟨i + 1, _, _, (scriptR_in (by omega)).trans (HSC.trans (script_bad (by omega) (by rw [List.length_map]; exact hcl2))), by first | decide | omega, rfl, rfl, rfl⟩)
  ·replace h2 := of_decide_eq_false h2
   refine c_exit rfl <| e_then <| csr <| mvl rfl <| bld [pt (0 : Int), pt (0 : Int), pt (0 : Int)] [] _ uy29 (lay29 _ uy29) z29 rfl rfl rfl <| agl rfl <| stw 0 _ [pt (0 : Int), pt (0 : Int), pt (0 : Int)] rfl rfl rfl rfl ty29 ⟨trivial, ?_⟩
   refine jt <| c_ret ?_
   exact j_end (own0 := []) (ro0 := [tPow10 9, tDb64 11]) (.inl rfl) rfl (hr2 Tryz.results12 (rvt (v := (.slice _ _ _)) rfl) (rvc (p := pa [pt (0 : Int), pt (0 : Int), pt (0 : Int)]) 0 rfl rfl rfl ty29)) [2, 3] [0, 1] [_, _] [_, _] [] _ rfl rfl (by kernel_rfl) rfl impl_nil (.inl ⟨L, o, (scriptR_in (by omega)).trans (HSC.trans (script_end (by omega))), hI1.2.1, hI1.2.2.1, HL4, hI1.2.2.2.2.1, rfl, rfl, rfl⟩)
end Go.Proofs.YtakbbpahfclgnaaGreatDoor
namespace Go.Proofs.YtakbbpahfclgnaaGreatDoor
open Go Go.Proofs Go.PW
open Go.PW.Enc (enc val)
def markW (_ : Nat) : Str := [119, 114, 105, 116, 116, 101, 110, 32, 111, 118, 101, 114]
theorem sameTexts28_ct (A B : Vs) (xs ys : List Str) (hA : A.ok xs) (hB : B.ok ys) (he : xs = ys) (hl : xs.length ≤ 1000000) : Ct Tryz.prog 26 [.slice A.adr xs.length A.cap, .slice B.adr ys.length B.cap] [] [A.seg xs, B.seg ys] (fun v o r => v = .bool true ∧ o = [] ∧ r = []) := by
 have hel : xs.length = ys.length := by rw [he]
 refine ct_enter Tryz.func26 rfl Tryz.ntmps26 (by kernel_rfl) rfl fun w0 => ?_
 refine csr <| agb rfl <| jt <| c_seq <| csr <| mvl rfl <| lenS rfl uy37 <| mvl rfl <| lenS rfl uy37 <| cmp false rfl rfl (by simp only [cmpV]; rw [decide_eq_true (show (xs.length : Int) = (ys.length : Int) by omega)]; rfl) <| jt <| c_false rfl <| c_skip <| e_then <| c_seq <| csr <| agi rfl <| jt <| c_block <| c_loop (σ := Nat) (fun i => i ≤ xs.length) (fun i => xs.length - i) (fun i => [(5, .int .i64 (i : Int))]) (fun i => []) (fun i => [A.seg xs, B.seg ys]) [4, 5, 11, 12, 13, 14, 15, 16, 17, 18, 19, 20, 21, 22, 23, 24, 25] 0 (Nat.zero_le _) ⟨rfl, trivial⟩ rfl rfl ?_
 rintro i g1 hI1
 try dsimp only at hI1 ⊢
 refine c_seq <| csr <| mvi rfl <| mvl rfl <| lenS rfl uy37 <| cmp _ rfl rfl rfl <| jt <| c_cond rfl (fun h1 => ?_) (fun h1 => ?_)
 ·replace h1 := of_decide_eq_true h1
  refine c_skip <| e_then <| c_seq <| c_block <| c_seq <| c_dr [_, _] [] [(0, 0), (1, 0), (2, 0), (3, 0), (4, 0), (5, 0), (6, 0), (7, 0), (8, 0)] follows (by kernel_rfl) calm_body (keepS [0, 1] rfl) <| mvl rfl <| mvi rfl <| ixs A xs i hA rfl rfl rfl uy37 ty9.sz rfl (by first | omega | (simp; done) | (simp; omega) | (simp at *; omega)) <| ldvsG 0 (List.getD xs i []) hA rfl rfl rfl rfl (getD_some (by first | omega | (simp; done) | (simp; omega) | (simp at *; omega))) ty9 <| mvl rfl <| mvi rfl <| ixs B ys i hB rfl rfl rfl uy37 ty9.sz rfl (by first | omega | (simp; done) | (simp; omega) | (simp at *; omega)) <| ldvsG 1 (List.getD ys i []) hB rfl rfl rfl rfl (getD_some (by first | omega | (simp; done) | (simp; omega) | (simp at *; omega))) ty9 <| scmp (a := (List.getD xs i [])) (b := (List.getD ys i [])) _ rfl rfl uy9 rfl <| j_re 25 (.bool false) (congrArg Value.bool (by rw [he]; simp)) <| jt <| c_false rfl <| c_skip <| e_in <| e_then <| c_reg <| mvi rfl <| addi rfl rfl rfl (by omega) <| agi rfl <| jn ?_
  exact e_loop (i + 1) (by omega) (by (try dsimp only); omega) (⟨rfl, trivial⟩) rfl rfl rfl
 ·replace h1 := of_decide_eq_false h1
  refine c_exit rfl <| e_then <| csr <| agb rfl <| jt <| c_ret ?_
  exact j_z (own0 := []) (ro0 := [A.seg xs, B.seg ys]) (.inl rfl) rfl (hr1 Tryz.results26 (rvt (v := (.bool _)) rfl)) rfl (⟨rfl, rfl, rfl⟩)
theorem sameCommands28_ct (A B : Vs) (L M : List CmdO) (hA : A.ok (List.map CmdO.h L)) (hB : B.ok (List.map CmdO.h M)) (hL : okL L) (hM : okL M) (he : L.map CmdO.cm = M.map CmdO.cm) (hl : L.length ≤ 1000000) (hla : ∀ c ∈ L, c.args.length ≤ 6) : Ct Tryz.prog 14 [.slice A.adr (List.map CmdO.h L).length A.cap, .slice B.adr (List.map CmdO.h M).length B.cap] [] [A.seg (List.map CmdO.h L), argsS 9 L, B.seg (List.map CmdO.h M), argsS 9 M] (fun v o r => v = .bool true ∧ o = [] ∧ r = []) := by
 have hel : L.length = M.length := by have := congrArg List.length he; simpa using this
 have hlL : (List.map CmdO.h L).length = L.length := List.length_map ..
 have hlM : (List.map CmdO.h M).length = M.length := List.length_map ..
 refine ct_enter Tryz.func14 rfl Tryz.ntmps14 (by kernel_rfl) rfl fun w0 => ?_
 refine csr <| agb rfl <| jt <| c_seq <| csr <| mvl rfl <| lenS rfl uy22 <| mvl rfl <| lenS rfl uy22 <| cmp false rfl rfl (by simp only [cmpV]; rw [decide_eq_true (show ((List.map CmdO.h L).length : Int) = ((List.map CmdO.h M).length : Int) by omega)]; rfl) <| jt <| c_false rfl <| c_skip <| e_then <| c_seq <| csr <| agi rfl <| jt <| c_block <| c_loop (σ := Nat) (fun i => i ≤ (List.map CmdO.h L).length) (fun i => (List.map CmdO.h L).length - i) (fun i => [(5, .int .i64 (i : Int))]) (fun i => []) (fun i => [A.seg (List.map CmdO.h L), argsS 9 L, B.seg (List.map CmdO.h M), argsS 9 M]) [4, 5, 11, 12, 13, 14, 15, 16, 17, 18, 19, 20, 21, 22, 23, 24, 25, 26, 27, 28, 29, 30, 31, 32, 33, 34, 35, 36, 37, 38, 39, 40, 41, 42, 43, 44, 45, 46, 47, 48, 49, 50, 51, 52, 53, 54] 0 (Nat.zero_le _) ⟨rfl, trivial⟩ rfl rfl ?_
 rintro i g1 hI1
 try dsimp only at hI1 ⊢
 refine c_seq <| csr <| mvi rfl <| mvl rfl <| lenS rfl uy22 <| cmp _ rfl rfl rfl <| jt <| c_cond rfl (fun h1 => ?_) (fun h1 => ?_)
 ·replace h1 := of_decide_eq_true h1
  refine c_skip <| e_then <| c_seq <| c_block <| c_seq ?_
  have HC := cm_at he (i := i) (by omega)
  refine c_dr [_, _, _, _] [] [(0, 0), (1, 0), (2, 0), (3, 0), (4, 0), (5, 0), (6, 0), (7, 0), (8, 0), (9, 0), (10, 0), (11, 0), (12, 0), (13, 0), (14, 0), (15, 0), (16, 0), (17, 0), (18, 0), (19, 0), (20, 0), (21, 0), (22, 0), (23, 0), (24, 0), (25, 0), (26, 0), (27, 0), (28, 0), (29, 0), (30, 0), (31, 0), (32, 0), (33, 0), (34, 0), (35, 1), (36, 0), (37, 0)] follows (by kernel_rfl) calm_body (keepS [0, 1, 2, 3] rfl) <| mvl rfl <| mvi rfl <| ixs A (List.map CmdO.h L) i hA rfl rfl rfl uy22 ty39.sz rfl (by first | omega | (simp; done) | (simp; omega) | (simp at *; omega)) <| fad rfl uy39 rfl ty3.sz <| ldvsfG 0 0 (CmdO.h (List.getD L i CmdO.z)) _ hA rfl rfl rfl (map_at (by omega)) rfl rfl ty3 <| mvl rfl <| mvi rfl <| ixs B (List.map CmdO.h M) i hB rfl rfl rfl uy22 ty39.sz rfl (by first | omega | (simp; done) | (simp; omega) | (simp at *; omega)) <| fad rfl uy39 rfl ty3.sz <| ldvsfG 2 0 (CmdO.h (List.getD M i CmdO.z)) _ hB rfl rfl rfl (map_at (by omega)) rfl rfl ty3 <| cmp _ rfl rfl rfl <| j_re 27 (.bool false) (congrArg Value.bool (by rw [decide_eq_true (show (CmdO.h (List.getD L i CmdO.z)).line = (CmdO.h (List.getD M i CmdO.z)).line from congrArg (fun n : Nat => (n : Int)) HC.1)]; rfl)) <| mvb rfl <| g_on rfl rfl rfl <| mvl rfl <| g_on rfl rfl rfl <| mvi rfl <| g_on rfl rfl rfl <| ixs A (List.map CmdO.h L) i hA rfl rfl rfl uy22 ty39.sz rfl (by first | omega | (simp; done) | (simp; omega) | (simp at *; omega)) <| g_on rfl rfl rfl <| fad rfl uy39 rfl ty9.sz <| g_on rfl rfl rfl <| ldvsfG 0 1 (CmdO.h (List.getD L i CmdO.z)) _ hA rfl rfl rfl (map_at (by omega)) rfl rfl ty9 <| g_on rfl rfl rfl <| mvl rfl <| g_on rfl rfl rfl <| mvi rfl <| g_on rfl rfl rfl <| ixs B (List.map CmdO.h M) i hB rfl rfl rfl uy22 ty39.sz rfl (by first | omega | (simp; done) | (simp; omega) | (simp at *; omega)) <| g_on rfl rfl rfl <| fad rfl uy39 rfl ty9.sz <| g_on rfl rfl rfl <| ldvsfG 2 1 (CmdO.h (List.getD M i CmdO.z)) _ hB rfl rfl rfl (map_at (by omega)) rfl rfl ty9 <| g_on rfl rfl rfl <| scmp (a := (List.getD L i CmdO.z).word) (b := (List.getD M i CmdO.z).word) _ rfl rfl uy9 rfl <| j_re 39 (.bool false) (congrArg Value.bool (by rw [decide_eq_true HC.2.1]; rfl)) <| pkf (.bool _) rfl rfl <| mvb rfl <| g_on rfl rfl rfl ?_
  refine mvl rfl <| g_on rfl rfl rfl <| mvi rfl <| g_on rfl rfl rfl <| ixs A (List.map CmdO.h L) i hA rfl rfl rfl uy22 ty39.sz rfl (by first | omega | (simp; done) | (simp; omega) | (simp at *; omega)) <| g_on rfl rfl rfl <| fad rfl uy39 rfl ty37.sz <| g_on rfl rfl rfl <| ldvsfG 0 2 (CmdO.h (List.getD L i CmdO.z)) _ hA rfl rfl rfl (map_at (by omega)) rfl rfl ty37 <| g_on rfl rfl rfl <| mvl rfl <| g_on rfl rfl rfl <| mvi rfl <| g_on rfl rfl rfl <| ixs B (List.map CmdO.h M) i hB rfl rfl rfl uy22 ty39.sz rfl (by first | omega | (simp; done) | (simp; omega) | (simp at *; omega)) <| g_on rfl rfl rfl <| fad rfl uy39 rfl ty37.sz <| g_on rfl rfl rfl <| ldvsfG 2 2 (CmdO.h (List.getD M i CmdO.z)) _ hB rfl rfl rfl (map_at (by omega)) rfl rfl ty37 <| g_on rfl rfl rfl <| cal (sameTexts28_ct (((List.getD L i CmdO.z).o).vs) (((List.getD M i CmdO.z).o).vs) ((List.getD L i CmdO.z).args) ((List.getD M i CmdO.z).args) (Ow.vs_ok (hL _ (getD_in (by omega)))) (Ow.vs_ok (hM _ (getD_in (by omega)))) HC.2.2 (Nat.le_trans (hla _ (getD_in (by omega))) (by decide))) [] [] [] rfl rfl rfl (by kernel_rfl) (impl_cons (args_impl 1 rfl (getD_in (by omega))) (args_impl 3 rfl (getD_in (by omega)))) rfl ?_; rintro _ _ _ ⟨rfl, rfl, rfl⟩; refine ⟨keepI [0, 1, 2, 3] rfl, ?_⟩
  refine g_on rfl rfl rfl <| not_ rfl <| pkf (.bool _) rfl rfl <| jt <| c_false rfl <| c_skip <| e_in <| e_then <| c_reg <| mvi rfl <| addi rfl rfl rfl (by omega) <| agi rfl <| jn ?_
  exact e_loop (i + 1) (by omega) (by show (List.map CmdO.h L).length - (i + 1) < (List.map CmdO.h L).length - i; omega) (⟨rfl, trivial⟩) rfl rfl rfl
 ·replace h1 := of_decide_eq_false h1
  refine c_exit rfl <| e_then <| csr <| agb rfl <| jt <| c_ret ?_
  exact j_z (own0 := []) (ro0 := [A.seg (List.map CmdO.h L), argsS 9 L, B.seg (List.map CmdO.h M), argsS 9 M]) (.inl rfl) rfl (hr1 Tryz.results14 (rvt (v := (.bool _)) rfl)) rfl (⟨rfl, rfl, rfl⟩)
theorem faulty28_nil  : Ct Tryz.prog 13 [.nilIface, .agg ⟨cat [pt (0 : Int), pt (0 : Int), pt (0 : Int)]⟩] [] [] (fun v o r => v = .bool true ∧ o = [] ∧ r = []) := by
 refine ct_enter Tryz.func13 rfl Tryz.ntmps13 (by kernel_rfl) rfl fun w0 => ?_
 refine csr <| bxx [pt (0 : Int), pt (0 : Int), pt (0 : Int)] _ rfl rfl fun b3 => ⟨trivial, ?_⟩
 refine agb rfl <| jt <| c_seq <| csr <| fad rfl uy29 rfl ty27.sz <| ldp 0 2 _ rfl rfl rfl rfl ty27 <| cmp true rfl rfl rfl <| jt <| c_true rfl <| csr <| mv .nilIface rfl <| eqnn true rfl uy24 rfl <| agb rfl <| jt <| c_ret ?_
 exact j_d (own0 := []) (ro0 := []) (.inl rfl) rfl (hr1 Tryz.results13 (rvt (v := (.bool _)) rfl)) [0] [_] rfl (by kernel_rfl) rfl (⟨rfl, rfl, rfl⟩)
theorem faulty28_ct (f l a e : Nat) (he : 0 < e) : Ct Tryz.prog 13 [.iface 40 (.pointer (some ⟨f, 0, none⟩)), .agg ⟨cat [pt (l : Int), pt (a : Int), pt (e : Int)]⟩] [] [[(f, .cells (cat [pt (l : Int), pt (a : Int), pt (e : Int)]) 29)], [(0, .view 0 [.iface 119 (.agg #[.pointer (some ⟨13, 24, none⟩)])])]] (fun v o r => v = .bool true ∧ o = [] ∧ r = []) := by
 refine ct_enter Tryz.func13 rfl Tryz.ntmps13 (by kernel_rfl) rfl fun w0 => ?_
 refine csr <| bxx [pt (l : Int), pt (a : Int), pt (e : Int)] _ rfl rfl fun b3 => ⟨trivial, ?_⟩
 refine agb rfl <| jt <| c_seq <| csr <| fad rfl uy29 rfl ty27.sz <| ldp 0 2 _ rfl rfl rfl rfl ty27 <| cmp false rfl rfl (by simp only [cmpV]; exact congrArg some (decide_eq_false (by omega))) <| jt <| c_false rfl <| c_skip <| e_then <| csr <| alo [p1 (.pointer none)] _ z40 rfl fun b5 => ⟨trivial, ?_⟩
 refine jt <| c_seq <| c_dr [_, _, _] [] [(0, 0), (1, 0), (2, 1), (3, 0), (4, 1), (5, 0), (6, 0), (7, 0), (11, 0), (8, 1), (9, 0), (10, 0), (12, 0), (13, 0), (14, 0)] follows (by kernel_rfl) calm_body (keepS [0, 2, 3] rfl) <| mv (.iface _ _) rfl <| mki (v := (.pointer _)) rfl uy53 rfl <| cal (as_ct ⟨f, 0, none⟩ b5 40) [1] [0] [_] rfl rfl rfl (by kernel_rfl) (impl_cons (impl_at 1 rfl) impl_nil) rfl ?_; rintro _ _ _ ⟨rfl, rfl, rfl⟩; refine ⟨keepI [0, 2, 3] rfl, ?_⟩
 refine mvb rfl <| g_on rfl rfl rfl <| ldp 1 0 _ rfl rfl rfl rfl ty40 <| g_on rfl rfl rfl <| eqpn true rfl rfl uy40 rfl <| pkt (.bool _) rfl rfl <| mvb rfl <| g_on rfl rfl rfl <| ldw 0 _ rfl rfl ty29 <| g_on rfl rfl rfl <| ldp 1 0 _ rfl rfl rfl rfl ty40 <| g_on rfl rfl rfl <| nlc rfl <| g_on rfl rfl rfl <| ldw 1 _ rfl rfl ty29 <| g_on rfl rfl rfl <| eqA (⟨(l : Int), (a : Int), (e : Int)⟩ : FaultT) (⟨(l : Int), (a : Int), (e : Int)⟩ : FaultT) true rfl rfl rfl rfl eq29 rfl Tryz.eqGuardType29 (by simp) <| pkt (.bool _) rfl rfl <| agb rfl <| jt <| c_ret ?_
 exact j_d (own0 := []) (ro0 := [[(f, .cells (cat [pt (l : Int), pt (a : Int), pt (e : Int)]) 29)], [(0, .view 0 [.iface 119 (.agg #[.pointer (some ⟨13, 24, none⟩)])])]]) (.inl rfl) rfl (hr1 Tryz.results13 (rvt (v := (.bool _)) rfl)) [0, 1] [_, _] rfl (by kernel_rfl) rfl (⟨rfl, rfl, rfl⟩)
end Go.Proofs.YtakbbpahfclgnaaGreatDoor
namespace Go.Proofs.YtakbbpahfclgnaaGreatDoor
open Go Go.Proofs Go.PW
open Go.PW.Enc (enc val)
theorem PParse_in (s : Str) (hs : s.length ≤ 140737488351232) (eu : TypeId) (ev : Value) (ru : TypeId) (rv : Value) {cs : List Cm} (h : scriptR fit28 form28 [116, 111, 119, 110] 280 s = .inr cs) : Ct Tryz.prog 11 [strV s] [] [tPow10 9, tDb64 11, tIf 7 eu ev, tIf 8 ru rv, tAsc 1] (fun v w r => ∃ (L : List CmdO) (o' : Ow), L.map CmdO.cm = cs ∧ okL L ∧ o'.ok (List.map CmdO.h L) ∧ L.length ≤ 400 ∧ (∀ c ∈ L, c.args.length ≤ 6) ∧ v = .tuple #[.slice o'.adr (List.map CmdO.h L).length o'.cap, .nilIface] ∧ w = [o'.seg (List.map CmdO.h L) 39, argsS 9 L] ∧ r = []) :=
  (PParse_ct s hs eu ev ru rv).mono fun v w r hh => by
    rcases hh with ⟨L, o', h', h2, h3, h4, h5, h6, h7, h8⟩ | ⟨f, l, a, e, h', _⟩
    · cases h.symm.trans h'; exact ⟨L, o', rfl, h2, h3, h4, h5, h6, h7, h8⟩
    · cases h.symm.trans h'
theorem PParse_no (s : Str) (hs : s.length ≤ 140737488351232) (eu : TypeId) (ev : Value) (ru : TypeId) (rv : Value) {l a e : Nat} (h : scriptR fit28 form28 [116, 111, 119, 110] 280 s = .inl (l, a, e)) : Ct Tryz.prog 11 [strV s] [] [tPow10 9, tDb64 11, tIf 7 eu ev, tIf 8 ru rv, tAsc 1] (fun v w r => ∃ f : Nat, v = .tuple #[.slice none 0 0, .iface 40 (.pointer (some ⟨f, 0, none⟩))] ∧ w = [[(f, .cells (cat [pt (l : Int), pt (a : Int), pt (e : Int)]) 29)]] ∧ r = []) :=
  (PParse_ct s hs eu ev ru rv).mono fun v w r hh => by
    rcases hh with ⟨L, o', h', _⟩ | ⟨f, l', a', e', h', _, h2, h3, h4⟩
    · cases h.symm.trans h'
    · cases h.symm.trans h'; exact ⟨f, h2, h3, h4⟩
theorem RefParse28_in (s : Str) (hs : s.length ≤ 140737488351232) {cs : List Cm} (h : scriptR fit28 form28 [116, 111, 119, 110] 280 s = .inr cs) : Ct Tryz.prog 12 [strV s] [] [tPow10 9, tDb64 11] (fun v w r => ∃ (L : List CmdO) (o' : Ow), L.map CmdO.cm = cs ∧ okL L ∧ o'.ok (List.map CmdO.h L) ∧ L.length ≤ 400 ∧ (∀ c ∈ L, c.args.length ≤ 6) ∧ v = .tuple #[.slice o'.adr (List.map CmdO.h L).length o'.cap, .agg ⟨cat [pt (0 : Int), pt (0 : Int), pt (0 : Int)]⟩] ∧ w = [o'.seg (List.map CmdO.h L) 39, argsS 9 L] ∧ r = []) :=
  (RefParse28_ct s hs).mono fun v w r hh => by
    rcases hh with ⟨L, o', h', h2, h3, h4, h5, h6, h7, h8⟩ | ⟨l, a, e, h', _⟩
    · cases h.symm.trans h'; exact ⟨L, o', rfl, h2, h3, h4, h5, h6, h7, h8⟩
    · cases h.symm.trans h'
theorem RefParse28_no (s : Str) (hs : s.length ≤ 140737488351232) {l a e : Nat} (h : scriptR fit28 form28 [116, 111, 119, 110] 280 s = .inl (l, a, e)) : Ct Tryz.prog 12 [strV s] [] [tPow10 9, tDb64 11] (fun v w r => v = .tuple #[.slice none 0 0, .agg ⟨cat [pt (l : Int), pt (a : Int), pt (e : Int)]⟩] ∧ w = [] ∧ r = []) :=
  (RefParse28_ct s hs).mono fun v w r hh => by
    rcases hh with ⟨L, o', h', _⟩ | ⟨l', a', e', h', h0, h2, h3, h4⟩
    · cases h.symm.trans h'
    · cases h.symm.trans h'; exact ⟨h2, h3, h4⟩
theorem PostParses_ct (s : Str) (hs : s.length ≤ 140737488351232) (eu : TypeId) (ev : Value) (ru : TypeId) (rv : Value) : Ct Tryz.prog 4 [strV s] [] [tPow10 9, tDb64 11, tIf 7 eu ev, tIf 8 ru rv, tAsc 1, [(0, .view 0 [.iface 119 (.agg #[.pointer (some ⟨13, 24, none⟩)])])]] (fun v o r => v = .bool true ∧ o = [] ∧ r = []) := by
 refine ct_enter Tryz.func4 rfl Tryz.ntmps4 (by kernel_rfl) rfl fun w0 => ?_
 refine csr <| agb rfl <| jsr <| mvs rfl <| cal (PParse_ct s hs eu ev ru rv) [] [] [] rfl rfl rfl (by kernel_rfl) (impl_cons (impl_at 0 rfl) (impl_cons (impl_at 1 rfl) (impl_cons (impl_at 2 rfl) (impl_cons (impl_at 3 rfl) (impl_cons (impl_at 4 rfl) impl_nil))))) rfl ?_; rintro _ _ _ (⟨L, o, hA, hL, ho, hl, hla, rfl, rfl, rfl⟩ | ⟨fa, fl, fat, fe, hB, hfe, rfl, rfl, rfl⟩)
 ·refine ⟨trivial, ?_⟩
  refine mv (.tuple _) rfl <| xtr (.slice _ _ _) rfl rfl <| xtr .nilIface rfl rfl <| agl rfl <| asg .nilIface rfl <| jsr <| mvs rfl <| cal (PParse_in s hs eu ev ru rv hA) [] [0, 1] [_, _] rfl rfl rfl (by kernel_rfl) (impl_cons (impl_at 0 rfl) (impl_cons (impl_at 1 rfl) (impl_cons (impl_at 2 rfl) (impl_cons (impl_at 3 rfl) (impl_cons (impl_at 4 rfl) impl_nil))))) rfl ?_; rintro _ _ _ ⟨Lb, ob, heb, hokob, hob, hlb, hcb, rfl, rfl, rfl⟩; refine ⟨trivial, ?_⟩
  refine mv (.tuple _) rfl <| xtr (.slice _ _ _) rfl rfl <| xtr .nilIface rfl rfl <| agl rfl <| asg .nilIface rfl <| jsr <| mvs rfl <| cal (RefParse28_in s hs hA) [] [0, 1, 2, 3] [_, _, _, _] rfl rfl rfl (by kernel_rfl) (impl_cons (impl_at 0 rfl) (impl_cons (impl_at 1 rfl) impl_nil)) rfl ?_; rintro _ _ _ ⟨Lc, oc, hec, hokoc, hoc, hlc, hcc, rfl, rfl, rfl⟩; refine ⟨trivial, ?_⟩
  refine mv (.tuple _) rfl <| xtr (.slice _ _ _) rfl rfl <| xtr (.agg _) rfl rfl <| alo [pt (0 : Int), pt (0 : Int), pt (0 : Int)] _ z29 rfl fun b8 => ⟨trivial, ?_⟩
  refine agl rfl <| stw 6 _ [pt (0 : Int), pt (0 : Int), pt (0 : Int)] rfl rfl rfl rfl ty29 ⟨trivial, ?_⟩
  refine jt <| c_seq <| csr <| mv .nilIface rfl <| ldw 6 _ rfl rfl ty29 <| cal faulty28_nil [] [0, 1, 2, 3, 4, 5, 6] [_, _, _, _, _, _, _] rfl rfl rfl (by kernel_rfl) impl_nil rfl ?_; rintro _ _ _ ⟨rfl, rfl, rfl⟩; refine ⟨trivial, ?_⟩
  refine not_ rfl <| mvb rfl <| g_on rfl rfl rfl <| mv .nilIface rfl <| g_on rfl rfl rfl <| ldw 6 _ rfl rfl ty29 <| g_on rfl rfl rfl <| cal faulty28_nil [] [0, 1, 2, 3, 4, 5, 6] [_, _, _, _, _, _, _] rfl rfl rfl (by kernel_rfl) impl_nil rfl ?_; rintro _ _ _ ⟨rfl, rfl, rfl⟩; refine ⟨trivial, ?_⟩
  refine g_on rfl rfl rfl <| not_ rfl <| pkf (.bool _) rfl rfl <| mvb rfl <| g_on rfl rfl rfl <| mvl rfl <| g_on rfl rfl rfl <| mvl rfl <| g_on rfl rfl rfl <| cal (sameCommands28_ct ((o).vs) ((oc).vs) L Lc (Ow.vs_ok ho) (Ow.vs_ok hoc) hL hokoc (by first | exact heb.trans hec.symm | exact hec.symm) (by omega) hla) [] [0, 1, 2, 3, 4, 5, 6] [_, _, _, _, _, _, _] rfl rfl rfl (by kernel_rfl) (impl_cons (ow_impl 6 rfl) (impl_cons (impl_at 7 rfl) (impl_cons (ow_impl 10 rfl) (impl_at 11 rfl)))) rfl ?_; rintro _ _ _ ⟨rfl, rfl, rfl⟩; refine ⟨trivial, ?_⟩
  refine g_on rfl rfl rfl <| not_ rfl <| pkf (.bool _) rfl rfl <| mvb rfl <| g_on rfl rfl rfl <| mvl rfl <| g_on rfl rfl rfl <| mvl rfl <| g_on rfl rfl rfl <| cal (sameCommands28_ct ((ob).vs) ((oc).vs) Lb Lc (Ow.vs_ok hob) (Ow.vs_ok hoc) hokob hokoc (by first | exact heb.trans hec.symm | exact hec.symm) (by omega) hcb) [] [0, 1, 2, 3, 4, 5, 6] [_, _, _, _, _, _, _] rfl rfl rfl (by kernel_rfl) (impl_cons (ow_impl 8 rfl) (impl_cons (impl_at 9 rfl) (impl_cons (ow_impl 10 rfl) (impl_at 11 rfl)))) rfl ?_; rintro _ _ _ ⟨rfl, rfl, rfl⟩; refine ⟨trivial, ?_⟩
  refine g_on rfl rfl rfl <| not_ rfl <| pkf (.bool _) rfl rfl <| jt <| c_false rfl <| c_skip <| e_then <| c_seq <| c_seq ?_
  have hlL : (List.map CmdO.h L).length = L.length := List.length_map ..
  refine c_reg <| agi rfl <| jt <| c_block <| c_loop (σ := Nat × List CmdO) (fun (i, N) => i ≤ L.length ∧ okL N ∧ N.map CmdO.h = L.map CmdO.h ∧ ∀ j, j < i → (List.getD N j CmdO.z).args = List.replicate (List.getD L j CmdO.z).args.length (markW j)) (fun (i, N) => L.length - i) (fun (i, N) => [(9, .int .i64 (i : Int))]) (fun (i, N) => [o.seg (List.map CmdO.h L) 39, argsS 9 N, ob.seg (List.map CmdO.h Lb) 39, argsS 9 Lb, oc.seg (List.map CmdO.h Lc) 39, argsS 9 Lc, [(b8, .cells (cat [pt (0 : Int), pt (0 : Int), pt (0 : Int)]) 29)]]) (fun (i, N) => [tPow10 9, tDb64 11, tIf 7 eu ev, tIf 8 ru rv, tAsc 1, [(0, .view 0 [.iface 119 (.agg #[.pointer (some ⟨13, 24, none⟩)])])]]) [9, 10, 51, 52, 53, 54, 55, 56, 57, 58, 59, 60, 61, 62, 63, 64, 65, 66, 67, 68, 69, 70, 71, 72, 73] (0, L) (⟨Nat.zero_le _, hL, rfl, fun j hj => by omega⟩) ⟨rfl, trivial⟩ rfl rfl ?_
  rintro ⟨i, N⟩ g1 hI1
  try dsimp only at hI1 ⊢
  have hokN := hI1.2.1
  have HMN := hI1.2.2.1
  have HLN := h_len HMN
  refine c_seq <| csr <| mvi rfl <| mvl rfl <| lenS rfl uy22 <| cmp _ rfl rfl rfl <| jt <| c_cond rfl (fun h1 => ?_) (fun h1 => ?_)
  ·replace h1 := of_decide_eq_true h1
   refine c_skip <| e_then <| c_seq <| c_block <| csr <| agi rfl <| jt <| c_block <| c_loop (σ := Nat × List CmdO) (fun (k, Q) => k ≤ (List.getD L i CmdO.z).args.length ∧ okL Q ∧ Q.map CmdO.h = L.map CmdO.h ∧ (∀ j, j < i → (List.getD Q j CmdO.z).args = List.replicate (List.getD L j CmdO.z).args.length (markW j)) ∧ (List.getD Q i CmdO.z).args.take k = List.replicate k (markW i)) (fun (k, Q) => (List.getD L i CmdO.z).args.length - k) (fun (k, Q) => [(10, .int .i64 (k : Int))]) (fun (k, Q) => [o.seg (List.map CmdO.h L) 39, argsS 9 Q, ob.seg (List.map CmdO.h Lb) 39, argsS 9 Lb, oc.seg (List.map CmdO.h Lc) 39, argsS 9 Lc, [(b8, .cells (cat [pt (0 : Int), pt (0 : Int), pt (0 : Int)]) 29)]]) (fun (k, Q) => [tPow10 9, tDb64 11, tIf 7 eu ev, tIf 8 ru rv, tAsc 1, [(0, .view 0 [.iface 119 (.agg #[.pointer (some ⟨13, 24, none⟩)])])]]) [10, 57, 58, 59, 60, 61, 62, 63, 64, 65, 66, 67, 68, 69, 70, 71, 72, 73] (0, N) (⟨Nat.zero_le _, hI1.2.1, hI1.2.2.1, hI1.2.2.2, rfl⟩) ⟨rfl, trivial⟩ rfl rfl ?_
   rintro ⟨k, Q⟩ g2 hI2
   try dsimp only at hI2 ⊢
   have hokQ := hI2.2.1
   have HMQ := hI2.2.2.1
   have HLQ := h_len HMQ
   have HQA := h_args HMQ (i := i) (by omega)
   have HLA := hla _ (getD_in (L := L) (i := i) (by omega))
   refine c_seq <| csr <| mvi rfl <| mvl rfl <| mvi rfl <| ixs ((o).vs) (List.map CmdO.h L) i (Ow.vs_ok ho) rfl rfl rfl uy22 ty39.sz rfl (by first | omega | (simp; done) | (simp; omega) | (simp at *; omega)) <| fad rfl uy39 rfl ty37.sz <| ldsofG 0 2 (CmdO.h (List.getD Q i CmdO.z)) _ ho rfl rfl rfl (by rw [← HMQ]; exact map_at (by omega)) rfl rfl ty37 <| lenS rfl uy37 <| j_re 63 (.int .i64 ((List.getD Q i CmdO.z).args.length : Int)) rfl <| cmp _ rfl rfl rfl <| jt <| c_cond rfl (fun h2 => ?_) (fun h2 => ?_)
   ·replace h2 := of_decide_eq_true h2
    refine c_skip <| e_then <| c_seq <| c_block <| c_keep [0, 2, 3, 4, 5, 6, 1] [] [_, _, _, _, _, _, _] rfl (by kernel_rfl) <| c_part (own' := [o.seg (List.map CmdO.h L) 39, ob.seg (List.map CmdO.h Lb) 39, argsS 9 Lb, oc.seg (List.map CmdO.h Lc) 39, argsS 9 Lc, [(b8, .cells (cat [pt (0 : Int), pt (0 : Int), pt (0 : Int)]) 29)], argsS 9 (List.take i Q ++ List.drop (i + 1) Q), (List.getD Q i CmdO.z).o.seg (List.getD Q i CmdO.z).args 9]) (by simp only [List.flatten_cons, List.flatten_nil, List.append_nil]; exact List.Perm.append_left _ (List.Perm.append_left _ (List.Perm.append_left _ (List.Perm.append_left _ (List.Perm.append_left _ (List.Perm.append_left _ (args_split (by omega) _))))))) <| c_reg <| mvl rfl <| mvi rfl <| ixs ((o).vs) (List.map CmdO.h L) i (Ow.vs_ok ho) rfl rfl rfl uy22 ty39.sz rfl (by first | omega | (simp; done) | (simp; omega) | (simp at *; omega)) <| fad rfl uy39 rfl ty37.sz <| ldsofG 0 2 (CmdO.h (List.getD Q i CmdO.z)) _ ho rfl rfl rfl (by rw [← HMQ]; exact map_at (by omega)) rfl rfl ty37 <| mvi rfl <| ixs (((List.getD Q i CmdO.z).o).vs) ((List.getD Q i CmdO.z).args) k (Ow.vs_ok (hokQ _ (getD_in (by omega)))) rfl rfl rfl uy37 ty9.sz rfl (by first | omega | (simp; done) | (simp; omega) | (simp at *; omega)) <| sto 7 k ([119, 114, 105, 116, 116, 101, 110, 32, 111, 118, 101, 114] : Str) (hokQ _ (getD_in (by omega))) rfl rfl rfl rfl rfl (by omega) ty9 ⟨trivial, ?_⟩
    refine jn <| e_in <| e_then <| c_keep [0, 1, 2, 3, 4, 5, 6, 7] [] [_, _, _, _, _, _, _, _] rfl (by kernel_rfl) <| c_part (own' := [o.seg (List.map CmdO.h L) 39, ob.seg (List.map CmdO.h Lb) 39, argsS 9 Lb, oc.seg (List.map CmdO.h Lc) 39, argsS 9 Lc, [(b8, .cells (cat [pt (0 : Int), pt (0 : Int), pt (0 : Int)]) 29)], argsS 9 (Q.set i ⟨(List.getD Q i CmdO.z).line, (List.getD Q i CmdO.z).word, (List.getD Q i CmdO.z).args.set k (markW i), (List.getD Q i CmdO.z).o⟩)]) (by simp only [List.flatten_cons, List.flatten_nil, List.append_nil]; exact List.Perm.append_left _ (List.Perm.append_left _ (List.Perm.append_left _ (List.Perm.append_left _ (List.Perm.append_left _ (List.Perm.append_left _ (args_join (by omega) _ _))))))) <| c_reg <| mvi rfl <| addi rfl rfl rfl (by omega) <| agi rfl <| jn <| e_keep [0, 6, 1, 2, 3, 4, 5] [] [_, _, _, _, _, _, _] rfl (by kernel_rfl) ?_
    exact e_loop (k + 1, Q.set i ⟨(List.getD Q i CmdO.z).line, (List.getD Q i CmdO.z).word, (List.getD Q i CmdO.z).args.set k (markW i), (List.getD Q i CmdO.z).o⟩) (by dsimp only; exact ⟨by omega, okL_set hokQ (Ow.ok_set (hokQ _ (getD_in (by omega))) k _), (set_h (by omega) (by simp [CmdO.h])).trans HMQ, fun j hj => by rw [getD_setC (by omega), if_neg (by omega)]; exact hI2.2.2.2.1 j hj, by rw [getD_setC (by omega), if_pos rfl]; exact take_setK hI2.2.2.2.2 (by omega)⟩) (by show (List.getD L i CmdO.z).args.length - (k + 1) < (List.getD L i CmdO.z).args.length - k; omega) (⟨rfl, trivial⟩) rfl rfl rfl
   ·replace h2 := of_decide_eq_false h2
    refine c_exit rfl <| e_in <| e_then <| c_reg <| mvi rfl <| addi rfl rfl rfl (by omega) <| agi rfl <| jn ?_
    exact e_lp (i + 1, Q) (by repeat (first | exact out_self | refine out_hav (by kernel_rfl) ?_ | refine out_look (by kernel_rfl) ?_)) (by dsimp only; exact ⟨by omega, hI2.2.1, hI2.2.2.1, fun j hj => by rcases Nat.lt_or_ge j i with h | h; exact hI2.2.2.2.1 j h; rw [show j = i by omega]; have e := hI2.2.2.2.2; rw [show k = (List.getD L i CmdO.z).args.length by omega, List.take_of_length_le (by omega)] at e; exact e⟩) (by show L.length - (i + 1) < L.length - i; omega) (⟨rfl, trivial⟩) rfl rfl rfl
  ·replace h1 := of_decide_eq_false h1
   refine c_exit rfl <| e_then <| c_seq <| csr <| agi rfl <| jt <| c_block <| c_loop (σ := Nat × List CmdO) (fun (i, P) => i ≤ L.length ∧ okL P ∧ P.map CmdO.h = L.map CmdO.h ∧ ∀ j, j < L.length → (List.getD P j CmdO.z).args = List.replicate (List.getD L j CmdO.z).args.length (markW j)) (fun (i, P) => L.length - i) (fun (i, P) => [(11, .int .i64 (i : Int))]) (fun (i, P) => [o.seg (List.map CmdO.h L) 39, argsS 9 P, ob.seg (List.map CmdO.h Lb) 39, argsS 9 Lb, oc.seg (List.map CmdO.h Lc) 39, argsS 9 Lc, [(b8, .cells (cat [pt (0 : Int), pt (0 : Int), pt (0 : Int)]) 29)]]) (fun (i, P) => [tPow10 9, tDb64 11, tIf 7 eu ev, tIf 8 ru rv, tAsc 1, [(0, .view 0 [.iface 119 (.agg #[.pointer (some ⟨13, 24, none⟩)])])]]) [11, 74, 75, 76, 77, 78, 79, 80, 81, 82, 83, 84, 85, 86] (0, N) (⟨Nat.zero_le _, hI1.2.1, hI1.2.2.1, fun j hj => hI1.2.2.2 j (by omega)⟩) ⟨rfl, trivial⟩ rfl rfl ?_
   rintro ⟨i, P⟩ g3 hI3
   try dsimp only at hI3 ⊢
   have hokP := hI3.2.1
   have HMP := hI3.2.2.1
   have HLP := h_len HMP
   have HLA := fun (h : i < L.length) => hla _ (getD_in (L := L) (i := i) h)
   have HPA := fun (h : i < L.length) => h_args HMP (i := i) h
   refine c_seq <| csr <| mvi rfl <| mvl rfl <| lenS rfl uy22 <| cmp _ rfl rfl rfl <| jt <| c_cond rfl (fun h3 => ?_) (fun h3 => ?_)
   ·replace h3 := of_decide_eq_true h3
    refine c_skip <| e_then <| c_seq <| c_block <| c_keep [0, 2, 3, 4, 5, 6, 1] [] [_, _, _, _, _, _, _] rfl (by kernel_rfl) <| c_part (own' := [o.seg (List.map CmdO.h L) 39, ob.seg (List.map CmdO.h Lb) 39, argsS 9 Lb, oc.seg (List.map CmdO.h Lc) 39, argsS 9 Lc, [(b8, .cells (cat [pt (0 : Int), pt (0 : Int), pt (0 : Int)]) 29)], argsS 9 (List.take i P ++ List.drop (i + 1) P), (List.getD P i CmdO.z).o.seg (List.getD P i CmdO.z).args 9]) (by simp only [List.flatten_cons, List.flatten_nil, List.append_nil]; exact List.Perm.append_left _ (List.Perm.append_left _ (List.Perm.append_left _ (List.Perm.append_left _ (List.Perm.append_left _ (List.Perm.append_left _ (args_split (by omega) _))))))) <| c_reg <| mvl rfl <| mvi rfl <| ixs ((o).vs) (List.map CmdO.h L) i (Ow.vs_ok ho) rfl rfl rfl uy22 ty39.sz rfl (by first | omega | (simp; done) | (simp; omega) | (simp at *; omega)) <| fad rfl uy39 rfl ty37.sz <| ldsofG 0 2 (CmdO.h (List.getD P i CmdO.z)) _ ho rfl rfl rfl (by rw [← HMP]; exact map_at (by omega)) rfl rfl ty37 <| bsl (α := Str) ([([103, 114, 111, 119, 110] : Str), ([103, 114, 111, 119, 110] : Str), ([103, 114, 111, 119, 110] : Str)]) uy37 ty9.sz rfl (by decide) z9 rfl fun b85 => ⟨trivial, ?_⟩
    refine appk 7 ((List.getD P i CmdO.z).o) ((List.getD P i CmdO.z).args) ([([103, 114, 111, 119, 110] : Str), ([103, 114, 111, 119, 110] : Str), ([103, 114, 111, 119, 110] : Str)] : List Str) (hokP _ (getD_in (by omega))) rfl ⟨rfl, rfl, rfl⟩ rfl rfl (gives_own (ys := ([([103, 114, 111, 119, 110] : Str), ([103, 114, 111, 119, 110] : Str), ([103, 114, 111, 119, 110] : Str)] : List Str)) (pre := []) (post := []) 8 rfl (by simp) rfl) uy37 uy37 (.inl ⟨_, rfl⟩) ty9.sz by9 z9 (by have := HLA (by omega); have := HPA (by omega); show ((List.getD P i CmdO.z).args.length + 3) * 16 ≤ _; omega) rfl fun ol86_2 _ ol86_2k ol86_2a ol86_2c => ⟨trivial, ?_⟩
    refine jn <| e_in <| e_then <| c_keep [0, 1, 2, 3, 4, 5, 6, 7] [8] [_, _, _, _, _, _, _, _] rfl (by kernel_rfl) <| c_part (own' := [o.seg (List.map CmdO.h L) 39, ob.seg (List.map CmdO.h Lb) 39, argsS 9 Lb, oc.seg (List.map CmdO.h Lc) 39, argsS 9 Lc, [(b8, .cells (cat [pt (0 : Int), pt (0 : Int), pt (0 : Int)]) 29)], argsS 9 (P.set i ⟨(List.getD P i CmdO.z).line, (List.getD P i CmdO.z).word, (List.getD P i CmdO.z).args, ol86_2⟩)]) (by simp only [List.flatten_cons, List.flatten_nil, List.append_nil]; exact List.Perm.append_left _ (List.Perm.append_left _ (List.Perm.append_left _ (List.Perm.append_left _ (List.Perm.append_left _ (List.Perm.append_left _ (args_join (by omega) _ _))))))) <| c_reg <| mvi rfl <| addi rfl rfl rfl (by omega) <| agi rfl <| jn <| e_keep [0, 6, 1, 2, 3, 4, 5] [] [_, _, _, _, _, _, _] rfl (by kernel_rfl) ?_
    exact e_loop (i + 1, P.set i ⟨(List.getD P i CmdO.z).line, (List.getD P i CmdO.z).word, (List.getD P i CmdO.z).args, ol86_2⟩) (by dsimp only; exact ⟨by omega, okL_set hokP ol86_2k, (set_h (by omega) (set_oh ol86_2a ol86_2c)).trans HMP, fun j hj => by rw [getD_setC (by omega)]; split; rename_i e; subst e; exact hI3.2.2.2 _ hj; exact hI3.2.2.2 j hj⟩) (by show L.length - (i + 1) < L.length - i; omega) (⟨rfl, trivial⟩) rfl rfl rfl
   ·replace h3 := of_decide_eq_false h3
    refine c_exit rfl <| e_then <| c_seq <| csr <| agi rfl <| jt <| c_block <| c_loop (σ := Nat) (fun i => i ≤ L.length) (fun i => L.length - i) (fun i => [(12, .int .i64 (i : Int))]) (fun i => [o.seg (List.map CmdO.h L) 39, argsS 9 P, ob.seg (List.map CmdO.h Lb) 39, argsS 9 Lb, oc.seg (List.map CmdO.h Lc) 39, argsS 9 Lc, [(b8, .cells (cat [pt (0 : Int), pt (0 : Int), pt (0 : Int)]) 29)]]) (fun i => [tPow10 9, tDb64 11, tIf 7 eu ev, tIf 8 ru rv, tAsc 1, [(0, .view 0 [.iface 119 (.agg #[.pointer (some ⟨13, 24, none⟩)])])]]) [2, 12, 13, 87, 88, 89, 90, 91, 92, 93, 94, 95, 96, 97, 98, 99, 100, 101, 102, 103, 104, 105, 106, 107, 108, 109, 110, 111] 0 (Nat.zero_le _) ⟨rfl, trivial⟩ rfl rfl ?_
    rintro i g4 hI4
    try dsimp only at hI4 ⊢
    refine c_seq <| csr <| mvi rfl <| mvl rfl <| lenS rfl uy22 <| cmp _ rfl rfl rfl <| jt <| c_cond rfl (fun h4 => ?_) (fun h4 => ?_)
    ·replace h4 := of_decide_eq_true h4
     refine c_skip <| e_then <| c_seq <| c_block <| csr <| agi rfl <| jt <| c_block <| c_loop (σ := Nat) (fun k => k ≤ (List.getD P i CmdO.z).args.length) (fun k => (List.getD P i CmdO.z).args.length - k) (fun k => [(13, .int .i64 (k : Int))]) (fun k => [o.seg (List.map CmdO.h L) 39, argsS 9 P, ob.seg (List.map CmdO.h Lb) 39, argsS 9 Lb, oc.seg (List.map CmdO.h Lc) 39, argsS 9 Lc, [(b8, .cells (cat [pt (0 : Int), pt (0 : Int), pt (0 : Int)]) 29)]]) (fun k => [tPow10 9, tDb64 11, tIf 7 eu ev, tIf 8 ru rv, tAsc 1, [(0, .view 0 [.iface 119 (.agg #[.pointer (some ⟨13, 24, none⟩)])])]]) [2, 13, 93, 94, 95, 96, 97, 98, 99, 100, 101, 102, 103, 104, 105, 106, 107, 108, 109, 110, 111] 0 (Nat.zero_le _) ⟨rfl, trivial⟩ rfl rfl ?_
     rintro k g5 hI5
     try dsimp only at hI5 ⊢
     have HPA := h_args HMP (i := i) (by omega)
     have HLA := hla _ (getD_in (L := L) (i := i) (by omega))
     refine c_seq <| csr <| mvi rfl <| mvl rfl <| mvi rfl <| ixs ((o).vs) (List.map CmdO.h L) i (Ow.vs_ok ho) rfl rfl rfl uy22 ty39.sz rfl (by first | omega | (simp; done) | (simp; omega) | (simp at *; omega)) <| fad rfl uy39 rfl ty37.sz <| ldsofG 0 2 (CmdO.h (List.getD P i CmdO.z)) _ ho rfl rfl rfl (by rw [← HMP]; exact map_at (by omega)) rfl rfl ty37 <| lenS rfl uy37 <| j_re 99 (.int .i64 ((List.getD P i CmdO.z).args.length : Int)) rfl <| cmp _ rfl rfl rfl <| jt <| c_cond rfl (fun h5 => ?_) (fun h5 => ?_)
     ·replace h5 := of_decide_eq_true h5
      refine c_skip <| e_then <| c_seq <| c_block <| c_seq <| c_keep [0, 2, 3, 4, 5, 6, 1] [] [_, _, _, _, _, _, _] rfl (by kernel_rfl) <| c_part (own' := [o.seg (List.map CmdO.h L) 39, ob.seg (List.map CmdO.h Lb) 39, argsS 9 Lb, oc.seg (List.map CmdO.h Lc) 39, argsS 9 Lc, [(b8, .cells (cat [pt (0 : Int), pt (0 : Int), pt (0 : Int)]) 29)], argsS 9 (List.take i P ++ List.drop (i + 1) P), (List.getD P i CmdO.z).o.seg (List.getD P i CmdO.z).args 9]) (by simp only [List.flatten_cons, List.flatten_nil, List.append_nil]; exact List.Perm.append_left _ (List.Perm.append_left _ (List.Perm.append_left _ (List.Perm.append_left _ (List.Perm.append_left _ (List.Perm.append_left _ (args_split (by omega) _))))))) <| c_reg <| mvl rfl <| mvi rfl <| ixs ((o).vs) (List.map CmdO.h L) i (Ow.vs_ok ho) rfl rfl rfl uy22 ty39.sz rfl (by first | omega | (simp; done) | (simp; omega) | (simp at *; omega)) <| fad rfl uy39 rfl ty37.sz <| ldsofG 0 2 (CmdO.h (List.getD P i CmdO.z)) _ ho rfl rfl rfl (by rw [← HMP]; exact map_at (by omega)) rfl rfl ty37 <| mvi rfl <| ixs (((List.getD P i CmdO.z).o).vs) ((List.getD P i CmdO.z).args) k (Ow.vs_ok (hokP _ (getD_in (by omega)))) rfl rfl rfl uy37 ty9.sz rfl (by first | omega | (simp; done) | (simp; omega) | (simp at *; omega)) <| ldsoG 7 (List.getD ((List.getD P i CmdO.z).args) k []) (hokP _ (getD_in (by omega))) rfl rfl rfl rfl (getD_some (by first | omega | (simp; done) | (simp; omega) | (simp at *; omega))) ty9 <| scmp (a := (List.getD ((List.getD P i CmdO.z).args) k [])) (b := ([119, 114, 105, 116, 116, 101, 110, 32, 111, 118, 101, 114] : Str)) _ rfl rfl uy9 rfl <| j_re 111 (.bool false) (congrArg Value.bool (by have e := mk_at (k := k) (hI3.2.2.2 i (by omega)) (by omega); rw [decide_eq_true (show List.getD (List.getD P i CmdO.z).args k [] = [119, 114, 105, 116, 116, 101, 110, 32, 111, 118, 101, 114] from e)]; rfl)) <| jt <| c_false rfl <| c_skip <| e_in <| e_then <| c_keep [0, 1, 2, 3, 4, 5, 6, 7] [] [_, _, _, _, _, _, _, _] rfl (by kernel_rfl) <| c_part (own' := [o.seg (List.map CmdO.h L) 39, ob.seg (List.map CmdO.h Lb) 39, argsS 9 Lb, oc.seg (List.map CmdO.h Lc) 39, argsS 9 Lc, [(b8, .cells (cat [pt (0 : Int), pt (0 : Int), pt (0 : Int)]) 29)], argsS 9 (P)]) (by simp only [List.flatten_cons, List.flatten_nil, List.append_nil]; exact List.Perm.append_left _ (List.Perm.append_left _ (List.Perm.append_left _ (List.Perm.append_left _ (List.Perm.append_left _ (List.Perm.append_left _ ((args_split (by omega) _).symm))))))) <| c_reg <| mvi rfl <| addi rfl rfl rfl (by omega) <| agi rfl <| jn <| e_keep [0, 6, 1, 2, 3, 4, 5] [] [_, _, _, _, _, _, _] rfl (by kernel_rfl) ?_
      exact e_loop (k + 1) (by omega) (by show (List.getD P i CmdO.z).args.length - (k + 1) < (List.getD P i CmdO.z).args.length - k; omega) (⟨rfl, trivial⟩) rfl rfl rfl
     ·replace h5 := of_decide_eq_false h5
      refine c_exit rfl <| e_in <| e_then <| c_reg <| mvi rfl <| addi rfl rfl rfl (by omega) <| agi rfl <| jn ?_
      exact e_lp (i + 1) (by repeat (first | exact out_self | refine out_hav (by kernel_rfl) ?_ | refine out_look (by kernel_rfl) ?_)) (by omega) (by (try dsimp only); omega) (⟨rfl, trivial⟩) rfl rfl rfl
    ·replace h4 := of_decide_eq_false h4
     refine c_exit rfl <| e_then <| csr <| mvl rfl <| bld [pt (0 : Int), pt ([] : Str), p1 (.slice none 0 0)] [(1, pt ([103, 114, 111, 119, 110] : Str))] _ uy39 (lay39 _ uy39) z39 rfl rfl rfl <| bsl (α := CmdH) ([(⟨0, [103, 114, 111, 119, 110], ⟨none, 0, 0⟩⟩ : CmdH)]) uy22 ty39.sz rfl (by decide) z39 rfl fun b114 => ⟨trivial, ?_⟩
     refine appk 0 o (List.map CmdO.h L) ([(⟨0, [103, 114, 111, 119, 110], ⟨none, 0, 0⟩⟩ : CmdH)] : List CmdH) ho rfl ⟨rfl, rfl, rfl⟩ rfl rfl (gives_own (ys := ([(⟨0, [103, 114, 111, 119, 110], ⟨none, 0, 0⟩⟩ : CmdH)] : List CmdH)) (pre := []) (post := []) 7 rfl (by simp) rfl) uy22 uy22 (.inl ⟨_, rfl⟩) ty39.sz by39 z39 (by first | (simp; done) | (simp; omega)) rfl fun ol115_4 _ ol115_4k ol115_4a ol115_4c => ⟨trivial, ?_⟩
     refine jsr <| mvl rfl <| mvl rfl <| cal (sameCommands28_ct ((ob).vs) ((oc).vs) Lb Lc (Ow.vs_ok hob) (Ow.vs_ok hoc) hokob hokoc (by first | exact heb.trans hec.symm | exact hec.symm) (by omega) hcb) [] [0, 1, 2, 3, 4, 5, 6, 7] [_, _, _, _, _, _, _, _] rfl rfl rfl (by kernel_rfl) (impl_cons (ow_impl 8 rfl) (impl_cons (impl_at 9 rfl) (impl_cons (ow_impl 10 rfl) (impl_at 11 rfl)))) rfl ?_; rintro _ _ _ ⟨rfl, rfl, rfl⟩; refine ⟨trivial, ?_⟩
     refine agb rfl <| jt <| c_ret ?_
     exact j_d (own0 := []) (ro0 := [tPow10 9, tDb64 11, tIf 7 eu ev, tIf 8 ru rv, tAsc 1, [(0, .view 0 [.iface 119 (.agg #[.pointer (some ⟨13, 24, none⟩)])])]]) (.inl rfl) rfl (hr1 Tryz.results4 (rvt (v := (.bool _)) rfl)) [0, 1, 2, 3, 4, 5, 6, 7] [_, _, _, _, _, _, _, _] rfl (by kernel_rfl) rfl (⟨rfl, rfl, rfl⟩)
 ·refine ⟨trivial, ?_⟩
  refine mv (.tuple _) rfl <| xtr (.slice _ _ _) rfl rfl <| xtr (.iface _ _) rfl rfl <| agl rfl <| asg (.iface _ _) rfl <| jsr <| mvs rfl <| cal (PParse_no s hs eu ev ru rv hB) [] [0] [_] rfl rfl rfl (by kernel_rfl) (impl_cons (impl_at 0 rfl) (impl_cons (impl_at 1 rfl) (impl_cons (impl_at 2 rfl) (impl_cons (impl_at 3 rfl) (impl_cons (impl_at 4 rfl) impl_nil))))) rfl ?_; rintro _ _ _ ⟨fb, rfl, rfl, rfl⟩; refine ⟨trivial, ?_⟩
  refine mv (.tuple _) rfl <| xtr (.slice _ _ _) rfl rfl <| xtr (.iface _ _) rfl rfl <| agl rfl <| asg (.iface _ _) rfl <| jsr <| mvs rfl <| cal (RefParse28_no s hs hB) [] [0, 1] [_, _] rfl rfl rfl (by kernel_rfl) (impl_cons (impl_at 0 rfl) (impl_cons (impl_at 1 rfl) impl_nil)) rfl ?_; rintro _ _ _ ⟨rfl, rfl, rfl⟩; refine ⟨trivial, ?_⟩
  refine mv (.tuple _) rfl <| xtr (.slice _ _ _) rfl rfl <| xtr (.agg _) rfl rfl <| alo [pt (0 : Int), pt (0 : Int), pt (0 : Int)] _ z29 rfl fun b8 => ⟨trivial, ?_⟩
  refine agl rfl <| stw 2 _ [pt (fl : Int), pt (fat : Int), pt (fe : Int)] rfl rfl rfl rfl ty29 ⟨trivial, ?_⟩
  refine jt <| c_seq <| csr <| mv (.iface _ _) rfl <| ldw 2 _ rfl rfl ty29 <| cal (faulty28_ct fa fl fat fe hfe) [] [0, 1, 2] [_, _, _] rfl rfl rfl (by kernel_rfl) (impl_cons (impl_at 6 rfl) (impl_cons (impl_at 5 rfl) impl_nil)) rfl ?_; rintro _ _ _ ⟨rfl, rfl, rfl⟩; refine ⟨trivial, ?_⟩
  refine not_ rfl <| mvb rfl <| g_on rfl rfl rfl <| mv (.iface _ _) rfl <| g_on rfl rfl rfl <| ldw 2 _ rfl rfl ty29 <| g_on rfl rfl rfl <| cal (faulty28_ct fb fl fat fe hfe) [] [0, 1, 2] [_, _, _] rfl rfl rfl (by kernel_rfl) (impl_cons (impl_at 7 rfl) (impl_cons (impl_at 5 rfl) impl_nil)) rfl ?_; rintro _ _ _ ⟨rfl, rfl, rfl⟩; refine ⟨trivial, ?_⟩
  refine g_on rfl rfl rfl <| not_ rfl <| pkf (.bool _) rfl rfl <| mvb rfl <| g_on rfl rfl rfl <| mvl rfl <| g_on rfl rfl rfl <| mvl rfl <| g_on rfl rfl rfl <| cal (sameCommands28_ct (⟨true, 0, 0, 0, none⟩ : Vs) (⟨true, 0, 0, 0, none⟩ : Vs) [] [] nilrow_ok nilrow_ok (fun c hc => by cases hc) (fun c hc => by cases hc) rfl (by decide) (fun c hc => by cases hc)) [] [0, 1, 2] [_, _, _] rfl rfl rfl (by kernel_rfl) (impl_cons impl_nilrow (impl_cons impl_empty (impl_cons impl_nilrow impl_empty))) rfl ?_; rintro _ _ _ ⟨rfl, rfl, rfl⟩; refine ⟨trivial, ?_⟩
  refine g_on rfl rfl rfl <| not_ rfl <| pkf (.bool _) rfl rfl <| mvb rfl <| g_on rfl rfl rfl <| mvl rfl <| g_on rfl rfl rfl <| mvl rfl <| g_on rfl rfl rfl <| cal (sameCommands28_ct (⟨true, 0, 0, 0, none⟩ : Vs) (⟨true, 0, 0, 0, none⟩ : Vs) [] [] nilrow_ok nilrow_ok (fun c hc => by cases hc) (fun c hc => by cases hc) rfl (by decide) (fun c hc => by cases hc)) [] [0, 1, 2] [_, _, _] rfl rfl rfl (by kernel_rfl) (impl_cons impl_nilrow (impl_cons impl_empty (impl_cons impl_nilrow impl_empty))) rfl ?_; rintro _ _ _ ⟨rfl, rfl, rfl⟩; refine ⟨trivial, ?_⟩
  refine g_on rfl rfl rfl <| not_ rfl <| pkf (.bool _) rfl rfl <| jt <| c_false rfl <| c_skip <| e_then <| c_seq <| csr <| agi rfl <| jt <| c_block <| c_loop (σ := Unit) (fun _ => True) (fun _ => 0) (fun _ => [(9, .int .i64 0)]) (fun _ => [[(fa, .cells (cat [pt (fl : Int), pt (fat : Int), pt (fe : Int)]) 29)], [(fb, .cells (cat [pt (fl : Int), pt (fat : Int), pt (fe : Int)]) 29)], [(b8, .cells (cat [pt (fl : Int), pt (fat : Int), pt (fe : Int)]) 29)]]) (fun _ => [tPow10 9, tDb64 11, tIf 7 eu ev, tIf 8 ru rv, tAsc 1, [(0, .view 0 [.iface 119 (.agg #[.pointer (some ⟨13, 24, none⟩)])])]]) [9, 10, 51, 52, 53, 54, 55, 56, 57, 58, 59, 60, 61, 62, 63, 64, 65, 66, 67, 68, 69, 70, 71, 72, 73] () (trivial) ⟨rfl, trivial⟩ rfl rfl ?_
  rintro ⟨⟩ g1 hI1
  try dsimp only at hI1 ⊢
  refine c_seq <| csr <| mvi rfl <| mvl rfl <| lenS rfl uy22 <| cmp false rfl rfl rfl <| jt <| c_false rfl <| c_exit rfl <| e_then <| c_seq <| csr <| agi rfl <| jt <| c_block <| c_loop (σ := Unit) (fun _ => True) (fun _ => 0) (fun _ => [(11, .int .i64 0)]) (fun _ => [[(fa, .cells (cat [pt (fl : Int), pt (fat : Int), pt (fe : Int)]) 29)], [(fb, .cells (cat [pt (fl : Int), pt (fat : Int), pt (fe : Int)]) 29)], [(b8, .cells (cat [pt (fl : Int), pt (fat : Int), pt (fe : Int)]) 29)]]) (fun _ => [tPow10 9, tDb64 11, tIf 7 eu ev, tIf 8 ru rv, tAsc 1, [(0, .view 0 [.iface 119 (.agg #[.pointer (some ⟨13, 24, none⟩)])])]]) [11, 74, 75, 76, 77, 78, 79, 80, 81, 82, 83, 84, 85, 86] () (trivial) ⟨rfl, trivial⟩ rfl rfl ?_
  rintro ⟨⟩ g3 hI3
  try dsimp only at hI3 ⊢
  refine c_seq <| csr <| mvi rfl <| mvl rfl <| lenS rfl uy22 <| cmp false rfl rfl rfl <| jt <| c_false rfl <| c_exit rfl <| e_then <| c_seq <| csr <| agi rfl <| jt <| c_block <| c_loop (σ := Unit) (fun _ => True) (fun _ => 0) (fun _ => [(12, .int .i64 0)]) (fun _ => [[(fa, .cells (cat [pt (fl : Int), pt (fat : Int), pt (fe : Int)]) 29)], [(fb, .cells (cat [pt (fl : Int), pt (fat : Int), pt (fe : Int)]) 29)], [(b8, .cells (cat [pt (fl : Int), pt (fat : Int), pt (fe : Int)]) 29)]]) (fun _ => [tPow10 9, tDb64 11, tIf 7 eu ev, tIf 8 ru rv, tAsc 1, [(0, .view 0 [.iface 119 (.agg #[.pointer (some ⟨13, 24, none⟩)])])]]) [2, 12, 13, 87, 88, 89, 90, 91, 92, 93, 94, 95, 96, 97, 98, 99, 100, 101, 102, 103, 104, 105, 106, 107, 108, 109, 110, 111] () (trivial) ⟨rfl, trivial⟩ rfl rfl ?_
  rintro ⟨⟩ g4 hI4
  try dsimp only at hI4 ⊢
  refine c_seq <| csr <| mvi rfl <| mvl rfl <| lenS rfl uy22 <| cmp false rfl rfl rfl <| jt <| c_false rfl <| c_exit rfl <| e_then <| c_seq <| c_addE <| c_reg <| mvl rfl <| bld [pt (0 : Int), pt ([] : Str), p1 (.slice none 0 0)] [(1, pt ([103, 114, 111, 119, 110] : Str))] _ uy39 (lay39 _ uy39) z39 rfl rfl rfl <| bsl (α := CmdH) ([(⟨0, [103, 114, 111, 119, 110], ⟨none, 0, 0⟩⟩ : CmdH)]) uy22 ty39.sz rfl (by decide) z39 rfl fun b114 => ⟨trivial, ?_⟩
  refine appk 3 Ow.nil (List.map CmdO.h []) ([(⟨0, [103, 114, 111, 119, 110], ⟨none, 0, 0⟩⟩ : CmdH)] : List CmdH) Ow.nil_ok rfl ⟨rfl, rfl, rfl⟩ rfl rfl (gives_own (ys := ([(⟨0, [103, 114, 111, 119, 110], ⟨none, 0, 0⟩⟩ : CmdH)] : List CmdH)) (pre := []) (post := []) 4 rfl (by simp) rfl) uy22 uy22 (.inl ⟨_, rfl⟩) ty39.sz by39 z39 (by first | (simp; done) | (simp; omega)) rfl fun ol115_6 _ ol115_6k ol115_6a ol115_6c => ⟨trivial, ?_⟩
  refine jsr <| mvl rfl <| mvl rfl <| cal (sameCommands28_ct (⟨true, 0, 0, 0, none⟩ : Vs) (⟨true, 0, 0, 0, none⟩ : Vs) [] [] nilrow_ok nilrow_ok (fun c hc => by cases hc) (fun c hc => by cases hc) rfl (by decide) (fun c hc => by cases hc)) [] [0, 1, 2, 3, 4] [_, _, _, _, _] rfl rfl rfl (by kernel_rfl) (impl_cons impl_nilrow (impl_cons impl_empty (impl_cons impl_nilrow impl_empty))) rfl ?_; rintro _ _ _ ⟨rfl, rfl, rfl⟩; refine ⟨trivial, ?_⟩
  refine agb rfl <| jt <| c_ret ?_
  exact j_d (own0 := []) (ro0 := [tPow10 9, tDb64 11, tIf 7 eu ev, tIf 8 ru rv, tAsc 1, [(0, .view 0 [.iface 119 (.agg #[.pointer (some ⟨13, 24, none⟩)])])]]) (.inl rfl) rfl (hr1 Tryz.results4 (rvt (v := (.bool _)) rfl)) [0, 1, 2, 3, 4] [_, _, _, _, _] rfl (by kernel_rfl) rfl (⟨rfl, rfl, rfl⟩)
end Go.Proofs.YtakbbpahfclgnaaGreatDoor
namespace Go.Proofs.YtakbbpahfclgnaaGreatDoor
open Go Go.ChangeShapes Go.WideShapes Go.ChangeAt Go.RowKit Go.PW
open Go.PW.Enc (enc val)
theorem own : ownKnob Tryz.prog.godebug = none := by kernel_rfl
theorem kids : Kids Tryz.prog (· < Tryz.prog.types.size) := kids_rows (by kernel_rfl) (by kernel_rfl)
theorem full : ∀ t e, t < Tryz.prog.types.size → Tryz.prog.underlying t = some (.slice e) → 0 < Tryz.prog.cellsOf e := slices_full_of _ (by kernel_rfl)
theorem gP : Tryz.prog.globalNamed "internal/strconv.uint64pow10" = some 9 := by kernel_rfl
theorem gD : Tryz.prog.globalNamed "math/bits.deBruijn64tab" = some 11 := by kernel_rfl
theorem tgP : (Tryz.prog.globals[9]?).map (·.type) = some 227 := by kernel_rfl
theorem tgD : (Tryz.prog.globals[11]?).map (·.type) = some 235 := by kernel_rfl
set_option maxRecDepth 100000 in
theorem laid_pow10 {W : World} {l : List (String × DataW Unit)} {ps : List MemPlace} (h : DataW.LaidVars Tryz.prog W l ps) (hm : ("internal/strconv.uint64pow10", Rows.laid_internal_strconv_uint64pow10) ∈ l) : SegIn W (tPow10 9) :=
  laid_row (⟨pow10L, by kernel_rfl⟩ : Arr UInt64 20) gP tgP (opnD_arr Tryz.underlying227 (by kernel_rfl) (by kernel_rfl) (opnD_u64 Tryz.underlying72)) (fun h => dU64_inj h) (by kernel_rfl) (laid_one h hm)
set_option maxRecDepth 100000 in
theorem laid_db64 {W : World} {l : List (String × DataW Unit)} {ps : List MemPlace} (h : DataW.LaidVars Tryz.prog W l ps) (hm : ("math/bits.deBruijn64tab", Rows.laid_math_bits_deBruijn64tab) ∈ l) : SegIn W (tDb64 11) :=
  laid_row (⟨dbL, by kernel_rfl⟩ : Arr UInt8 64) gD tgD (opnD_arr Tryz.underlying235 (by kernel_rfl) (by kernel_rfl) (opnD_u8 Tryz.underlying5)) (fun h => dU8_inj h) (by kernel_rfl) (laid_one h hm)
theorem gES : Tryz.prog.globalNamed "strconv.ErrSyntax" = some 7 := by kernel_rfl
theorem gER : Tryz.prog.globalNamed "strconv.ErrRange" = some 8 := by kernel_rfl
theorem tgES : (Tryz.prog.globals[7]?).map (·.type) = some 24 := by kernel_rfl
theorem tgER : (Tryz.prog.globals[8]?).map (·.type) = some 24 := by kernel_rfl
theorem laid_es {W : World} {l : List (String × DataW Unit)} {ps : List MemPlace} (h : DataW.LaidVars Tryz.prog W l ps) (hm : ("strconv.ErrSyntax", Rows.laid_strconv_ErrSyntax) ∈ l) : ∃ u v, SegIn W (tIf 7 u v) := laid_if gES tgES Tryz.underlying24 (laid_one h hm)
theorem laid_er {W : World} {l : List (String × DataW Unit)} {ps : List MemPlace} (h : DataW.LaidVars Tryz.prog W l ps) (hm : ("strconv.ErrRange", Rows.laid_strconv_ErrRange) ∈ l) : ∃ u v, SegIn W (tIf 8 u v) := laid_if gER tgER Tryz.underlying24 (laid_one h hm)
theorem etN : Tryz.prog.globalNamed "errors.errorType" = some 0 := by kernel_rfl
theorem rtN : (Tryz.prog.cutTypes.find? (·.1 == "internal/reflectlite.rtype")).map (·.2) = some 119 := by kernel_rfl
theorem sizeN : Tryz.prog.types.size = 261 := by kernel_rfl
theorem laid_et {W : World} {hs : List (String × DataW Unit)} (h : handlesMet Tryz.prog hs W) (hm : ("errors.errorType", Rows.laid_errors_errorType) ∈ hs) : SegIn W [(0, .view 0 [.iface 119 (.agg #[.pointer (some ⟨13, 24, none⟩)])])] := by
  obtain ⟨name, u, ty, e1, e2, e3, e4, e5⟩ := h _ hm
  have en : name = [101, 114, 114, 111, 114] := (Option.some.inj e1).symm
  subst en
  obtain rfl := Option.some.inj (rtN.symm.trans e2)
  have hm : ty ∈ (List.range 261).filter fun t => Tryz.prog.rowNamed t [101, 114, 114, 111, 114] := List.mem_filter.2 ⟨List.mem_range.2 (by rw [← sizeN]; exact e3), e4⟩
  rw [errType_row] at hm
  obtain rfl := List.mem_singleton.1 hm
  have hh : typeHandle Tryz.prog 24 = .pointer (some ⟨13, 24, none⟩) := by kernel_rfl
  rw [hh] at e5
  intro q hq
  rw [List.mem_singleton] at hq; subst hq
  unfold World.var? at e5
  rw [etN] at e5
  simp only [Option.bind_some] at e5
  cases hc : W.heap[0]? with
  | none => rw [hc] at e5; cases e5
  | some o =>
    rw [hc] at e5
    cases o with
    | cells c E fr =>
      simp only [Option.some.injEq] at e5
      subst e5
      exact ⟨_, rfl, _, _, _, rfl, fun i v hv => by rw [Nat.zero_add]; simpa using hv⟩
    | _ => cases e5
noncomputable def laidW (os : Os) : World :=
  { World.doorLaid Tryz.prog 400 os with heap := (World.doorLaid Tryz.prog 400 os).heap.modify 5 fun
      | .cells _ t fr => .cells ⟨encs firstL⟩ t fr
      | o => o }
end Go.Proofs.YtakbbpahfclgnaaGreatDoor
namespace Go.Proofs.YtakbbpahfclgnaaGreatDoor
open Go Go.ChangeShapes Go.WideShapes Go.ChangeAt Go.RowKit Go.PW
open Go.PW.Enc (enc val)
theorem gA : Tryz.prog.globalNamed "strings.asciiSpace" = some 1 := by kernel_rfl
theorem tgA : (Tryz.prog.globals[1]?).map (·.type) = some 132 := by kernel_rfl
set_option maxRecDepth 100000 in
theorem laid_asc {W : World} {l : List (String × DataW Unit)} {ps : List MemPlace} (h : DataW.LaidVars Tryz.prog W l ps) (hm : ("strings.asciiSpace", Rows.laid_strings_asciiSpace) ∈ l) : SegIn W (tAsc 1) :=
  laid_row (⟨ascL, by kernel_rfl⟩ : Arr UInt8 256) gA tgA (opnD_arr Tryz.underlying132 (by kernel_rfl) (by kernel_rfl) (opnD_u8 Tryz.underlying5)) (fun h => dU8_inj h) (by kernel_rfl) (laid_one h hm)
set_option maxRecDepth 100000 in
theorem postParses_met (os : Os) (args : Array Value) : laidMetH Tryz.prog Rows.postParsesRow.laid ((laidW os).forCall (fun _ _ => 0) ⟨#[], args, []⟩).memory :=
  laidMetH_of_parts3 (fuel := 8) (laidMet_of_run' 8 (by kernel_rfl) (by kernel_rfl)) (by kernel_rfl) (by kernel_rfl)
set_option maxRecDepth 100000 in
theorem postParses_lifted (os : Os) (started : os.Started) (H : Type) (enc : TypeId × Value → H) :
    ReturnsInHanded {} Tryz.checked os 4 .any (fun w args => (Rows.postParsesSpec.pre enc Tryz.prog Tryz.f4 [] false w args ∧ laidMetH Tryz.prog Rows.postParsesRow.laid w) ∧ sizedMet enc Tryz.prog Tryz.f4 (OpenSpec.ofChange Rows.postParsesSpec) false w args)
      (Rows.postParsesSpec.post enc Tryz.prog Tryz.f4 false true false false) := by
  refine returnsInHanded_of_change_and (C := Tryz.checked) (X := fun w _ => laidMetH Tryz.prog Rows.postParsesRow.laid w) (fun _ _ _ hh h => h.of_heap hh) own started (by kernel_rfl) Tryz.func4
    (ChangeSpec.witness_shaped (enc := enc) (C := Tryz.checked) (os := os) (X := fun w _ => laidMetH Tryz.prog Rows.postParsesRow.laid w) false (laidW os) #[strV []] 40 rfl (World.shaped_of_RefB (by kernel_rfl) (by kernel_rfl)) (by kernel_rfl) (by kernel_rfl) (by kernel_rfl) (postParses_met os _)) ?_
  intro W base args ds gs before hval0 hW _ hwt hL _
  have hval : ∀ (j : Nat) t v, Tryz.f4.params[j]? = some t → args[j]? = some v → Value.okWide Tryz.prog W .any base t v := hval0
  have hW' := hW
  obtain ⟨p, q, hA0, hV, rfl, hfz, hnd⟩ := hW
  have hA : DataW.TrodAll enc Tryz.prog W 0 (fun _ => true) true Tryz.f4.params.toList args.toList ds p := hA0
  rw [Tryz.params4] at hA hval
  obtain ⟨v0, vs0, d0, ds0, p0, q0, hargs, rfl, rfl, h0, r0⟩ := trodAll_cons hA
  obtain ⟨rfl, rfl, rfl⟩ := trodAll_nil r0
  obtain rfl : args = #[v0] := by cases args; simp_all
  obtain ⟨rfl, rfl⟩ := trodVars_none hV
  obtain ⟨s0, rfl, rfl, rfl, _⟩ := Go.ChangeMaps.open_string Tryz.underlying9 (hval 0 9 v0 rfl rfl) h0
  have hs : s0.data.toList.length ≤ 140737488351232 := sized_string hwt (j := 0) (t := 9) (by rw [Tryz.params4]; rfl) rfl
  have hl : laidMet Tryz.prog (Rows.postParsesRow.laid.filter fun x => x.2.handleName?.isNone) W ∧ handlesMet Tryz.prog (Rows.postParsesRow.laid.filter fun x => x.2.handleName?.isSome) W := hL
  obtain ⟨⟨ps, hl, _⟩, hh⟩ := hl
  have ha := laid_pow10 hl (List.mem_filter.2 ⟨by simp [Rows.postParsesRow], by kernel_rfl⟩)
  have hb2 := laid_db64 hl (List.mem_filter.2 ⟨by simp [Rows.postParsesRow], by kernel_rfl⟩)
  have hc := laid_es hl (List.mem_filter.2 ⟨by simp [Rows.postParsesRow], by kernel_rfl⟩)
  have hd := laid_er hl (List.mem_filter.2 ⟨by simp [Rows.postParsesRow], by kernel_rfl⟩)
  have he := laid_et hh (List.mem_filter.2 ⟨by simp [Rows.postParsesRow], by kernel_rfl⟩)
  obtain ⟨eu, ev, hc⟩ := hc
  obtain ⟨ru, rv, hd⟩ := hd
  have hg := laid_asc hl (List.mem_filter.2 ⟨by simp [Rows.postParsesRow], by kernel_rfl⟩)
  have hct := (PostParses_ct s0.data.toList hs eu ev ru rv).2 W ⟨by simp, by simpa using ⟨ha, hb2, hc, hd, hg, he⟩, by simp [blks], by simp [blks]⟩
  refine hct.mono fun e W' ⟨v, own', ro', he, hp, hin⟩ => ⟨v, he, ?_⟩
  obtain ⟨rfl, _, _⟩ := hp
  exact law_post kids full (by rw [Tryz.params4]; decide) hW' rfl hin.ext rfl (by kernel_rfl) Tryz.underlying4
set_option maxRecDepth 100000 in
theorem postParses_over : Rows.postParsesRow.holds Tryz.pinned (OpenSpec.ofChange Rows.postParsesSpec) :=
  OpenClaim.holds_of_wide 4 Tryz.f4 rfl rfl rfl rfl rfl rfl rfl ⟨rfl, rfl, rfl, rfl, rfl⟩ rfl rfl rfl rfl rfl (by kernel_rfl) Tryz.func4 (by kernel_rfl)
    (of_decide_eq_true (by kernel_rfl)) (by unfold Func.isWrapper; first | (rw [if_pos (by decide +kernel)]; kernel_rfl) | (rw [if_neg (by decide +kernel)]; exact ⟨rfl, rfl⟩))
    (fun os started H enc _ => postParses_lifted os started H enc)
set_option maxRecDepth 100000 in
/-- The statement: the tied card. -/
theorem postParses_holds : Rows.PostParsesCardSaid :=
  Claim7.holds_tied_plain_at .later [] [.data, .data, .data, .handle, .sentinel, .sentinel, .listed, .data] true (true, "1b837f70c8c69c5692803a02391dce862d29d702cfdb9e97faeb7e5190eafee9") true
    postParses_over (fun _ h => by cases h) (by kernel_rfl) (fun _ h => by cases h) postParses_row_tie rfl ⟨rfl, rfl⟩ (by kernel_rfl) rfl
    (fun f fn hf hfn => by
      obtain rfl : f = 4 := Option.some.inj ((show Tryz.prog.funcNamed "pawl/pawllaw28.PostParses" = some 4 by kernel_rfl).symm.trans hf) |>.symm
      obtain rfl : fn = Tryz.f4 := (Option.some.inj (Tryz.func4.symm.trans hfn)).symm
      exact ⟨by kernel_rfl, fun j t ht => by
        rw [Tryz.params4] at ht
        have hm : t ∈ [9] := by simpa using Array.mem_of_getElem? ht
        have hall : ([9].all fun u => !Tryz.prog.wantsStandIn u) = true := by kernel_rfl
        exact (show Tryz.prog.wantsStandIn t = false by simpa using List.all_eq_true.1 hall t hm)⟩)
    (by kernel_rfl)
#print axioms postParses_holds
end Go.Proofs.YtakbbpahfclgnaaGreatDoor
