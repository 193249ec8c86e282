/- Laws of an engine and of the program's functions, gathered. No condition. -/
import Derived.Test.YtakbbpahfclgnaaGreatDoorV4
open Go.Proofs.Tryz renaming underlying3 → uy3, underlying4 → uy4, underlying5 → uy5, underlying9 → uy9, underlying22 → uy22, underlying29 → uy29, underlying37 → uy37, underlying39 → uy39, underlying40 → uy40, underlying46 → uy46, underlying49 → uy49, underlying94 → uy94, underlying97 → uy97, underlying99 → uy99, underlying132 → uy132, underlying144 → uy144, underlying145 → uy145
set_option maxRecDepth 20000
set_option maxHeartbeats 4000000
namespace Go.PW
open Enc (enc val)
open Go
def LeP {α : Type} (n : Nat) : PR α → Prop
  | .inl q => q ≤ n
  | .inr (_, q) => q ≤ n
theorem LeP.of {α : Type} {n : Nat} {x : PR α} (h1 : ∀ q, x = .inl q → q ≤ n) (h2 : ∀ a q, x = .inr (a, q) → q ≤ n) : LeP n x := by
  cases x with
  | inl q => exact h1 q rfl
  | inr y => exact h2 y.1 y.2 rfl
theorem LeP.bind {α β : Type} {n : Nat} {x : PR α} {f : α → Nat → PR β} (h : LeP n x) (hf : ∀ a p, p ≤ n → LeP n (f a p)) : LeP n (bindR x f) := by
  cases x with
  | inl q => exact h
  | inr y => exact hf y.1 y.2 h
theorem leP_end {α : Type} {s : Str} {q : Nat} {a : α} (h : q ≤ s.length) : LeP s.length (endR s q a) := by
  unfold endR; split <;> exact h
theorem leP_num {s : Str} {l m p : Nat} (hp : p ≤ s.length) : LeP s.length (numR s l m p) := LeP.of (fun q h => by
  unfold numR at h
  by_cases hb : blk s p = true
  · rw [if_pos hb] at h
    have := blk_lt hb
    cases hn : pnum 10 (word s (p + 1)) with
    | none => rw [hn] at h; cases h; omega
    | some n =>
      rw [hn] at h; simp only at h
      by_cases h2 : l ≤ n ∧ n ≤ m
      · rw [if_pos h2] at h; cases h
      · rw [if_neg h2] at h; cases h; omega
  · rw [if_neg hb] at h; cases h; exact hp) fun a q h => (numR_next h).2.1
theorem leP_hex {s : Str} {n p : Nat} (hp : p ≤ s.length) : LeP s.length (hexR s n p) := LeP.of (fun q h => by
  unfold hexR at h
  by_cases hb : blk s p = true
  · rw [if_pos hb] at h
    have := blk_lt hb
    by_cases h2 : wlen s (p + 1) = 2 * n ∧ hexok (word s (p + 1)) = true
    · rw [if_pos h2] at h; cases h
    · rw [if_neg h2] at h; cases h; omega
  · rw [if_neg hb] at h; cases h; exact hp) fun a q h => (hexR_next h).2.1
theorem leP_deg {s : Str} {M : F64} {p : Nat} (hp : p ≤ s.length) : LeP s.length (degR s M p) := LeP.of (fun q h => by
  have hx := leP_hex (n := 8) hp
  cases hh : hexR s 8 p with
  | inl k => rw [degR_l hh] at h; cases h; rw [hh] at hx; exact hx
  | inr y =>
    obtain ⟨w, k⟩ := y
    have hn := hexR_next hh
    cases ho : oddB (degB w) M with
    | true => rw [degR_odd hh ho] at h; cases h; omega
    | false => rw [degR_ok hh ho] at h; cases h) fun a q h => (degR_next h).2
theorem leP_text {s : Str} {lo hi p : Nat} (hp : p ≤ s.length) : LeP s.length (textR s lo hi p) := LeP.of (fun q h => by
  unfold textR at h
  by_cases hb : blk s p = true
  · rw [if_pos hb] at h
    have := blk_lt hb
    by_cases h2 : p + 1 < s.length ∧ List.getD s (p + 1) 0 = 34 ∧ qstop s (p + 2) < s.length
    · rw [if_pos h2] at h
      cases hu : unq (qin s (p + 1)) with
      | none => rw [hu] at h; cases h; omega
      | some t =>
        rw [hu] at h; simp only at h
        by_cases h3 : lo ≤ t.length ∧ t.length ≤ hi
        · rw [if_pos h3] at h; cases h
        · rw [if_neg h3] at h; cases h; omega
    · rw [if_neg h2] at h; cases h; omega
  · rw [if_neg hb] at h; cases h; exact hp) fun a q h => (textR_next h).2
theorem leP_marks {s : Str} : ∀ (f : Nat) (ms : List UInt32) (least p : Nat), p ≤ s.length → LeP s.length (marksR s f ms least p)
  | 0, ms, least, p, hp => by unfold marksR; exact Nat.zero_le _
  | f + 1, ms, least, p, hp => by
    have hx := leP_num (l := least) (m := 4294967295) hp
    cases hh : numR s least 4294967295 p with
    | inl k => rw [marksR_l hh (by omega)]; rw [hh] at hx; exact hx
    | inr y =>
      obtain ⟨n, k⟩ := y
      have hn := numR_next hh
      by_cases hl : ms.length = 100
      · rw [marksR_full hh (by omega) hl]; show p + 1 ≤ s.length; omega
      · by_cases hk : k < s.length
        · rw [marksR_more hh (by omega) hl hk]; exact leP_marks f _ _ _ (by omega)
        · rw [marksR_end hh (by omega) hl hk]; exact hn.2.1
theorem leP_parse (s : Str) : LeP s.length (parseR s) := by
  have h0 : (word s 0).length ≤ s.length := by rw [word_length]; have := wlen_le s 0; omega
  unfold parseR
  split
  · exact (leP_text h0).bind fun _ _ h => leP_end h
  split
  · exact (leP_marks _ _ _ _ h0).bind fun _ _ h => leP_end h
  split
  · exact (leP_marks _ _ _ _ h0).bind fun _ _ h => leP_end h
  split
  · exact (leP_deg h0).bind fun _ _ h => (leP_deg h).bind fun _ _ h => (leP_text h).bind fun _ _ h => leP_end h
  split
  · exact (leP_num h0).bind fun _ _ h => (leP_text h).bind fun _ _ h => leP_end h
  split
  · exact (leP_num h0).bind fun _ _ h => leP_end h
  split
  · exact (leP_text h0).bind fun _ _ h => (leP_num h).bind fun _ _ h => (leP_hex h).bind fun _ _ h => leP_end h
  · exact Nat.zero_le _
theorem parseR_le {s : Str} {q : Nat} (h : parseR s = .inl q) : q ≤ s.length := by
  have := leP_parse s
  rw [h] at this; exact this
section
variable {fit : UInt8 → Str → Bool} {why : Nat} {s : Str} {acc : List Str} {k : UInt8} {p a : Nat} {w : Str} {r : List (Nat × Str)}
end
section
variable {fit : UInt8 → Str → Bool} {form : Str → Option (List UInt8)} {first : Str} {why : Nat} {s : Str} {n : Nat}
theorem line_long (h : 4000 < s.length) : lineR fit form first why s n = .inl (4000, 2) := by rw [lineR, if_pos h]
theorem line_blank (h : ¬ 4000 < s.length) (hw : wordsL s 0 = []) : lineR fit form first why s n = .inr none := by rw [lineR, if_neg h, hw]
theorem line_note {a : Nat} {w : Str} {r : List (Nat × Str)} (h : ¬ 4000 < s.length) (hw : wordsL s 0 = (a, w) :: r) (h35 : List.getD w 0 0 = 35) : lineR fit form first why s n = .inr none := by rw [lineR, if_neg h, hw]; simp only; rw [if_pos h35]
theorem line_many {a : Nat} {w : Str} {r : List (Nat × Str)} (h : ¬ 4000 < s.length) (hw : wordsL s 0 = (a, w) :: r) (h35 : ¬ List.getD w 0 0 = 35) (hn : 400 ≤ n) : lineR fit form first why s n = .inl (0, 2) := by rw [lineR, if_neg h, hw]; simp only; rw [if_neg h35, if_pos hn]
theorem line_unknown {a : Nat} {w : Str} {r : List (Nat × Str)} (h : ¬ 4000 < s.length) (hw : wordsL s 0 = (a, w) :: r) (h35 : ¬ List.getD w 0 0 = 35) (hn : ¬ 400 ≤ n) (hf : form w = none) : lineR fit form first why s n = .inl (a, why) := by rw [lineR, if_neg h, hw]; simp only; rw [if_neg h35, if_neg hn, hf]
theorem line_place {a : Nat} {w : Str} {r : List (Nat × Str)} {ks : List UInt8} (h : ¬ 4000 < s.length) (hw : wordsL s 0 = (a, w) :: r) (h35 : ¬ List.getD w 0 0 = 35) (hn : ¬ 400 ≤ n) (hf : form w = some ks) (hd : decide (w = first) ≠ decide (n = 0)) : lineR fit form first why s n = .inl (a, why) := by rw [lineR, if_neg h, hw]; simp only; rw [if_neg h35, if_neg hn, hf]; simp only; rw [if_pos hd]
theorem line_args {a : Nat} {w : Str} {r : List (Nat × Str)} {ks : List UInt8} (h : ¬ 4000 < s.length) (hw : wordsL s 0 = (a, w) :: r) (h35 : ¬ List.getD w 0 0 = 35) (hn : ¬ 400 ≤ n) (hf : form w = some ks) (hd : ¬ decide (w = first) ≠ decide (n = 0)) : lineR fit form first why s n = match argsR fit why s [] ks r with
    | .inl e => .inl e
    | .inr (l, []) => .inr (some (w, l))
    | .inr (_, (a', _) :: _) => .inl (a', why) := by rw [lineR, if_neg h, hw]; simp only; rw [if_neg h35, if_neg hn, hf]; simp only; rw [if_neg hd]; rfl
theorem line_ok {a : Nat} {w : Str} {r : List (Nat × Str)} {ks : List UInt8} {l : List Str} (h : ¬ 4000 < s.length) (hw : wordsL s 0 = (a, w) :: r) (h35 : ¬ List.getD w 0 0 = 35) (hn : ¬ 400 ≤ n) (hf : form w = some ks) (hd : ¬ decide (w = first) ≠ decide (n = 0)) (ha : argsR fit why s [] ks r = .inr (l, [])) : lineR fit form first why s n = .inr (some (w, l)) := by rw [line_args h hw h35 hn hf hd, ha]
theorem line_more {a a' : Nat} {w x : Str} {r t : List (Nat × Str)} {ks : List UInt8} {l : List Str} (h : ¬ 4000 < s.length) (hw : wordsL s 0 = (a, w) :: r) (h35 : ¬ List.getD w 0 0 = 35) (hn : ¬ 400 ≤ n) (hf : form w = some ks) (hd : ¬ decide (w = first) ≠ decide (n = 0)) (ha : argsR fit why s [] ks r = .inr (l, (a', x) :: t)) : lineR fit form first why s n = .inl (a', why) := by rw [line_args h hw h35 hn hf hd, ha]
theorem line_bad {a : Nat} {w : Str} {r : List (Nat × Str)} {ks : List UInt8} {e : Nat × Nat} (h : ¬ 4000 < s.length) (hw : wordsL s 0 = (a, w) :: r) (h35 : ¬ List.getD w 0 0 = 35) (hn : ¬ 400 ≤ n) (hf : form w = some ks) (hd : ¬ decide (w = first) ≠ decide (n = 0)) (ha : argsR fit why s [] ks r = .inl e) : lineR fit form first why s n = .inl e := by rw [line_args h hw h35 hn hf hd, ha]
theorem line_lt {x : Str × List Str} (h : lineR fit form first why s n = .inr (some x)) : n < 400 := by
  refine Decidable.byContradiction fun hn => ?_
  unfold lineR at h
  by_cases h1 : 4000 < s.length
  · rw [if_pos h1] at h; cases h
  · rw [if_neg h1] at h
    cases hw : wordsL s 0 with
    | nil => rw [hw] at h; cases h
    | cons y r =>
      obtain ⟨a, w⟩ := y
      rw [hw] at h; simp only at h
      by_cases h2 : List.getD w 0 0 = 35
      · rw [if_pos h2] at h; cases h
      · rw [if_neg h2, if_pos (by omega)] at h; cases h
variable {ls : List Str} {i : Nat} {acc : List Cm}
theorem script_cmd {w : Str} {l : List Str} (hi : i < ls.length) (h : lineR fit form first why (List.getD ls i []) acc.length = .inr (some (w, l))) : scriptL fit form first why (ls.drop i) i acc = scriptL fit form first why (ls.drop (i + 1)) (i + 1) (acc ++ [⟨i + 1, w, l⟩]) := by
  rw [show List.getD ls i [] = ls[i] by simp [List.getD, hi]] at h
  rw [List.drop_eq_getElem_cons hi, scriptL, h]
theorem script_none (hi : i < ls.length) (h : lineR fit form first why (List.getD ls i []) acc.length = .inr none) : scriptL fit form first why (ls.drop i) i acc = scriptL fit form first why (ls.drop (i + 1)) (i + 1) acc := by
  rw [show List.getD ls i [] = ls[i] by simp [List.getD, hi]] at h
  rw [List.drop_eq_getElem_cons hi, scriptL, h]
theorem script_bad {a e : Nat} (hi : i < ls.length) (h : lineR fit form first why (List.getD ls i []) acc.length = .inl (a, e)) : scriptL fit form first why (ls.drop i) i acc = .inl (i + 1, a, e) := by
  rw [show List.getD ls i [] = ls[i] by simp [List.getD, hi]] at h
  rw [List.drop_eq_getElem_cons hi, scriptL, h]
theorem script_end (hi : ls.length ≤ i) : scriptL fit form first why (ls.drop i) i acc = .inr acc := by rw [List.drop_of_length_le hi]; rfl
theorem scriptR_long (h : 262144 < s.length) : scriptR fit form first why s = .inl (0, 0, 2) := by rw [scriptR, if_pos h]
theorem scriptR_in (h : ¬ 262144 < s.length) : scriptR fit form first why s = scriptL fit form first why (linesL s) 0 [] := by rw [scriptR, if_neg h]
end
theorem getD_line {s : Str} {i : Nat} (hi : i < (linesL s).length) : (List.getD (linesL s) i []).length ≤ s.length := by
  rw [show List.getD (linesL s) i [] = (linesL s)[i] by simp [List.getD, hi]]
  exact linesL_mem _ s (Nat.le_refl _) _ (List.getElem_mem hi)
theorem bne_t {P : Prop} [Decidable P] {n : Nat} (h : (decide P != decide ((n : Int) = 0)) = true) : decide P ≠ decide (n = 0) := by
  intro e; rw [e] at h
  by_cases hn : n = 0 <;> simp [hn] at h
theorem bne_f {P : Prop} [Decidable P] {n : Nat} (h : (decide P != decide ((n : Int) = 0)) = false) : ¬ decide P ≠ decide (n = 0) := fun e => by
  by_cases hn : n = 0
  · subst hn; by_cases hp : P <;> simp [hp] at h e
  · have : ¬ (n : Int) = 0 := by omega
    by_cases hp : P <;> simp [hp, this, hn] at h e
end Go.PW
namespace Go.Proofs.YtakbbpahfclgnaaGreatDoor
open Go Go.Proofs Go.PW
open Go.PW.Enc (enc val)
theorem ty37 : Ty Tryz.prog 37 1 false := ⟨by kernel_rfl, by kernel_rfl⟩
theorem lay29 : ∀ fs, Tryz.prog.underlying 29 = some (.struct fs) → Lay Tryz.prog fs [(0, 1), (1, 1), (2, 1)] := fun fs h => by rw [Tryz.underlying29] at h; cases h; unfold Lay; kernel_rfl
theorem z29 : Zt Tryz.prog 29 (.agg ⟨cat [pt (0 : Int), pt (0 : Int), pt (0 : Int)]⟩) := by unfold Zt; kernel_rfl
end Go.Proofs.YtakbbpahfclgnaaGreatDoor
namespace Go.Proofs.YtakbbpahfclgnaaGreatDoor
open Go Go.Proofs Go.PW
open Go.PW.Enc (enc val)
theorem lay39 : ∀ fs, Tryz.prog.underlying 39 = some (.struct fs) → Lay Tryz.prog fs [(0, 1), (1, 1), (2, 1)] := fun fs h => by rw [Tryz.underlying39] at h; cases h; unfold Lay; kernel_rfl
theorem z39 : Zt Tryz.prog 39 (.agg ⟨cat [pt (0 : Int), pt ([] : Str), p1 (.slice none 0 0)]⟩) := by unfold Zt; kernel_rfl
theorem lastC_at {c : Str} (hc : c = ([99, 111, 110, 116, 101, 110, 116] : Str)) : ∀ {ks : List Str} {i : Nat}, lastC ks = true → i < ks.length → List.getD ks i [] = c → ks.drop (i + 1) = []
  | [], i, _, hi, _ => by simp at hi
  | k :: r, 0, h, hi, e => by
    simp only [lastC, Bool.and_eq_true, Bool.or_eq_true, decide_eq_true_eq] at h
    have e' : k = c := e
    rcases h.1 with h1 | h1
    · exact absurd (e'.trans hc) h1
    · simpa using h1
  | k :: r, i + 1, h, hi, e => by
    simp only [lastC, Bool.and_eq_true] at h
    have := lastC_at hc (ks := r) (i := i) h.2 (by simpa using hi) (by simpa [List.getD] using e)
    simpa using this
end Go.Proofs.YtakbbpahfclgnaaGreatDoor
namespace Go.Proofs.YtakbbpahfclgnaaGreatDoor
open Go Go.Proofs Go.PW
open Go.PW.Enc (enc val)
theorem ty39 : Ty Tryz.prog 39 3 true := ⟨by kernel_rfl, by kernel_rfl⟩
theorem by39 : (Tryz.prog.info? 39).map (·.bytes) = some 48 := by kernel_rfl
end Go.Proofs.YtakbbpahfclgnaaGreatDoor
namespace Go.Proofs.YtakbbpahfclgnaaGreatDoor
open Go Go.Proofs Go.PW
open Go.PW.Enc (enc val)
theorem numV_dash {w : Str} (h : w.length < 1 ∨ 9 < w.length ∨ (1 < w.length ∧ List.getD w 0 0 = 48)) : (-1 : Int) = numV w := (numV_bad fun hh => by
  have h9 := isNum_len hh.2
  have hn := hh.2
  unfold isNum at hn
  simp only [Bool.and_eq_true, Bool.or_eq_true, decide_eq_true_eq, Bool.not_eq_true', decide_eq_false_iff_not] at hn
  rcases h with h | h | h
  · omega
  · omega
  · rcases hn.2 with h1 | h1
    · exact h1 h.2
    · rw [h1] at h; simp at h).symm
theorem numV_chr {w : Str} {i : Nat} (hi : i < w.length) (h : (List.getD w i 0).toNat < 48 ∨ 57 < (List.getD w i 0).toNat) : (-1 : Int) = numV w := (numV_bad fun hh => by
  have := dig_bd (all_at (isNum_dig hh.2) hi); omega).symm
theorem numV_done {w : Str} (h0 : 0 < w.length) (h9 : w.length ≤ 9) (hz : ¬(1 < w.length ∧ List.getD w 0 0 = 48)) (hd : w.all digB = true) : numV w = (valN 10 w : Int) := numV_ok h0 (by
  unfold isNum
  rw [hd, decide_eq_true (show (w.length : Int) ≤ 9 by omega)]
  by_cases hc : List.getD w 0 0 = 48
  · rw [decide_eq_true (one_48 (by have : ¬ 1 < w.length := fun h => hz ⟨h, hc⟩; omega) hc)]; simp
  · rw [decide_eq_false hc]; rfl)
theorem dig_of {c : UInt8} (h1 : 48 ≤ c.toNat) (h2 : c.toNat ≤ 57) : digB c = true := by simp only [digB, Bool.and_eq_true, decide_eq_true_eq]; omega
theorem Number_ct (w : Str) (hw : w.length ≤ 140737488351232) : Ct Tryz.prog 59 [strV w] [] [] (fun v o r => v = .int .i64 (numV w) ∧ o = [] ∧ r = []) := by
 refine ct_enter Tryz.func59 rfl Tryz.ntmps59 (by kernel_rfl) rfl fun w0 => ?_
 refine csr <| agi rfl <| jt <| c_seq <| csr <| mvs rfl <| lenT (s := w) rfl uy9 <| cmp _ rfl rfl rfl <| mvb rfl <| jsplit 8 rfl (fun h1 => ?_) (fun h1 => ?_)
 ·replace h1 := of_decide_eq_true h1
  refine g_off rfl rfl rfl rfl <| g_off rfl rfl rfl rfl <| g_off rfl rfl rfl rfl <| pkt (.bool _) rfl rfl <| mvb rfl <| g_off rfl rfl rfl rfl <| g_off rfl rfl rfl rfl <| g_off rfl rfl rfl rfl <| g_off rfl rfl rfl rfl <| g_und rfl rfl rfl <| g_und rfl rfl rfl <| g_und rfl rfl rfl <| g_off rfl rfl rfl rfl <| pkt (.bool _) rfl rfl <| jt <| c_true rfl <| csr <| agi rfl <| jt <| c_ret ?_
  exact j_z (own0 := []) (ro0 := []) (.inl rfl) rfl (hr1 Tryz.results59 (rvt (v := (.int _ _)) rfl)) rfl (⟨congrArg (Value.int _) (numV_dash (by first | (left; omega) | (right; left; omega) | exact .inr (.inr ⟨by omega, by assumption⟩))), rfl, rfl⟩)
 ·replace h1 := of_decide_eq_false h1
  refine g_on rfl rfl rfl <| mvs rfl <| g_on rfl rfl rfl <| lenT (s := w) rfl uy9 <| g_on rfl rfl rfl <| cmp _ rfl rfl rfl <| pkf (.bool _) rfl rfl <| mvb rfl <| jsplit 13 rfl (fun h2 => ?_) (fun h2 => ?_)
  ·replace h2 := of_decide_eq_true h2
   refine g_off rfl rfl rfl rfl <| g_off rfl rfl rfl rfl <| g_off rfl rfl rfl rfl <| g_off rfl rfl rfl rfl <| g_und rfl rfl rfl <| g_und rfl rfl rfl <| g_und rfl rfl rfl <| g_off rfl rfl rfl rfl <| pkt (.bool _) rfl rfl <| jt <| c_true rfl <| csr <| agi rfl <| jt <| c_ret ?_
   exact j_z (own0 := []) (ro0 := []) (.inl rfl) rfl (hr1 Tryz.results59 (rvt (v := (.int _ _)) rfl)) rfl (⟨congrArg (Value.int _) (numV_dash (by first | (left; omega) | (right; left; omega) | exact .inr (.inr ⟨by omega, by assumption⟩))), rfl, rfl⟩)
  ·replace h2 := of_decide_eq_false h2
   refine g_on rfl rfl rfl <| mvs rfl <| g_on rfl rfl rfl <| lenT (s := w) rfl uy9 <| g_on rfl rfl rfl <| cmp _ rfl rfl rfl <| g_on rfl rfl rfl <| mvb rfl <| jsplit 17 rfl (fun h3 => ?_) (fun h3 => ?_)
   ·replace h3 := of_decide_eq_true h3
    refine g_on rfl rfl rfl <| mvs rfl <| g_on rfl rfl rfl <| idxT (s := w) 0 rfl rfl uy9 rfl (by first | omega | (simp; done) | (simp; omega) | (simp at *; omega)) <| g_on rfl rfl rfl <| equ8 (a := (List.getD w 0 0)) (b := (48 : UInt8)) _ rfl rfl rfl <| g_on rfl rfl rfl <| pkt (.bool _) rfl rfl <| pkf (.bool _) rfl rfl <| jt <| c_cond rfl (fun h4 => ?_) (fun h4 => ?_)
    ·replace h4 := of_decide_eq_true h4
     refine csr <| agi rfl <| jt <| c_ret ?_
     exact j_z (own0 := []) (ro0 := []) (.inl rfl) rfl (hr1 Tryz.results59 (rvt (v := (.int _ _)) rfl)) rfl (⟨congrArg (Value.int _) (numV_dash (by first | (left; omega) | (right; left; omega) | exact .inr (.inr ⟨by omega, by assumption⟩))), rfl, rfl⟩)
    ·replace h4 := of_decide_eq_false h4
     refine c_skip <| e_then <| csr <| agi rfl <| jt <| c_seq <| csr <| agi rfl <| jt <| c_block <| c_loop (σ := Nat × Nat) (fun (i, n) => i ≤ w.length ∧ n = valN 10 (w.take i) ∧ ∀ j, j < i → digB (List.getD w j 0) = true) (fun (i, n) => w.length - i) (fun (i, n) => [(4, .int .i64 (i : Int)), (3, .int .i64 (n : Int))]) (fun (i, n) => []) (fun (i, n) => []) [2, 3, 4, 23, 24, 25, 26, 27, 28, 29, 30, 31, 32, 33, 34, 35, 36, 37, 38, 39, 40, 41, 42, 43, 44, 45, 46] (0, 0) (⟨by omega, by simp [valN], fun j hj => by omega⟩) ⟨rfl, rfl, trivial⟩ rfl rfl ?_
     rintro ⟨i, n⟩ g1 hI1
     try dsimp only at hI1 ⊢
     have HTD : (w.take i).all digB = true := all_yes (fun j hj => by rw [List.length_take] at hj; rw [show List.getD (w.take i) j 0 = List.getD w j 0 by simp [List.getD, List.getElem?_take, show j < i by omega]]; exact hI1.2.2 j (by omega))
     have HTL : (w.take i).length = i := by rw [List.length_take]; omega
     have HV := val_9 HTD (by omega) (Nat.le_refl _)
     rw [List.take_length] at HV
     have HN := hI1.2.1
     refine c_seq <| csr <| mvi rfl <| mvs rfl <| lenT (s := w) rfl uy9 <| cmp _ rfl rfl rfl <| jt <| c_cond rfl (fun h5 => ?_) (fun h5 => ?_)
     ·replace h5 := of_decide_eq_true h5
      refine c_skip <| e_then <| c_seq <| c_block <| c_seq <| csr <| mvs rfl <| mvi rfl <| idxT (s := w) i rfl rfl uy9 rfl (by first | omega | (simp; done) | (simp; omega) | (simp at *; omega)) <| cmp _ rfl rfl rfl <| mvb rfl <| jsplit 33 rfl (fun h6 => ?_) (fun h6 => ?_)
      ·replace h6 := of_decide_eq_true h6
       refine g_off rfl rfl rfl rfl <| g_off rfl rfl rfl rfl <| g_off rfl rfl rfl rfl <| g_off rfl rfl rfl rfl <| pkt (.bool _) rfl rfl <| jt <| c_true rfl <| csr <| agi rfl <| jt <| c_ret ?_
       exact j_z (own0 := []) (ro0 := []) (.inl rfl) rfl (hr1 Tryz.results59 (rvt (v := (.int _ _)) rfl)) rfl (⟨congrArg (Value.int _) (numV_chr (i := i) (by omega) (by omega)), rfl, rfl⟩)
      ·replace h6 := of_decide_eq_false h6
       refine g_on rfl rfl rfl <| mvs rfl <| g_on rfl rfl rfl <| mvi rfl <| g_on rfl rfl rfl <| idxT (s := w) i rfl rfl uy9 rfl (by first | omega | (simp; done) | (simp; omega) | (simp at *; omega)) <| g_on rfl rfl rfl <| cmp _ rfl rfl rfl <| pkf (.bool _) rfl rfl <| jt <| c_cond rfl (fun h7 => ?_) (fun h7 => ?_)
       ·replace h7 := of_decide_eq_true h7
        refine csr <| agi rfl <| jt <| c_ret ?_
        exact j_z (own0 := []) (ro0 := []) (.inl rfl) rfl (hr1 Tryz.results59 (rvt (v := (.int _ _)) rfl)) rfl (⟨congrArg (Value.int _) (numV_chr (i := i) (by omega) (by omega)), rfl, rfl⟩)
       ·replace h7 := of_decide_eq_false h7
        refine c_skip <| e_then ?_
        have HSU : ((List.getD w i 0) - 48).toNat = (List.getD w i 0).toNat - 48 := u8_sub (d := 48) (by show 48 ≤ _; omega)
        refine c_reg <| mvi rfl <| muli rfl rfl rfl (by omega) <| mvs rfl <| mvi rfl <| idxT (s := w) i rfl rfl uy9 rfl (by first | omega | (simp; done) | (simp; omega) | (simp at *; omega)) <| subU8 (a := (List.getD w i 0)) (b := (48 : UInt8)) rfl rfl <| cvI (((List.getD w i 0) - (48 : UInt8)).toNat : Int) rfl uy5 uy3 (wI64 (by have := UInt8.toNat_lt ((List.getD w i 0) - (48 : UInt8)); omega)) <| addi rfl rfl rfl (by omega) <| agi rfl <| jn <| e_in <| e_then <| c_reg <| mvi rfl <| addi rfl rfl rfl (by omega) <| agi rfl <| jn ?_
        exact e_loop (i + 1, n * 10 + ((List.getD w i 0) - 48).toNat) (⟨by omega, by rw [take_suc (by omega), valN_app, ← HN, HSU]; unfold dgv; rw [if_pos (by omega)], fun j hj => by rcases Nat.lt_or_ge j i with h | h; exact hI1.2.2 j h; rw [show j = i by omega]; exact dig_of (by omega) (by omega)⟩) (by show w.length - (i + 1) < w.length - i; omega) (⟨rfl, congrArg (Value.int _) (by omega), trivial⟩) rfl rfl rfl
     ·replace h5 := of_decide_eq_false h5
      refine c_exit rfl <| e_then <| csr <| mvi rfl <| agi rfl <| jt <| c_ret ?_
      exact j_z (own0 := []) (ro0 := []) (.inl rfl) rfl (hr1 Tryz.results59 (rvt (v := (.int _ _)) rfl)) rfl (⟨congrArg (Value.int _) (by rw [numV_done (by omega) (by omega) (fun hh => by first | omega | exact absurd hh.2 (by assumption)) (all_yes (fun j hj => hI1.2.2 j (by omega))), HN, show i = w.length by omega, List.take_length]), rfl, rfl⟩)
   ·replace h3 := of_decide_eq_false h3
    refine g_off rfl rfl rfl rfl <| g_off rfl rfl rfl rfl <| g_off rfl rfl rfl rfl <| g_on rfl rfl rfl <| pkf (.bool _) rfl rfl <| pkf (.bool _) rfl rfl <| jt <| c_false rfl <| c_skip <| e_then <| csr <| agi rfl <| jt <| c_seq <| csr <| agi rfl <| jt <| c_block <| c_loop (σ := Nat × Nat) (fun (i, n) => i ≤ w.length ∧ n = valN 10 (w.take i) ∧ ∀ j, j < i → digB (List.getD w j 0) = true) (fun (i, n) => w.length - i) (fun (i, n) => [(4, .int .i64 (i : Int)), (3, .int .i64 (n : Int))]) (fun (i, n) => []) (fun (i, n) => []) [2, 3, 4, 23, 24, 25, 26, 27, 28, 29, 30, 31, 32, 33, 34, 35, 36, 37, 38, 39, 40, 41, 42, 43, 44, 45, 46] (0, 0) (⟨by omega, by simp [valN], fun j hj => by omega⟩) ⟨rfl, rfl, trivial⟩ rfl rfl ?_
    rintro ⟨i, n⟩ g1 hI1
    try dsimp only at hI1 ⊢
    have HTD : (w.take i).all digB = true := all_yes (fun j hj => by rw [List.length_take] at hj; rw [show List.getD (w.take i) j 0 = List.getD w j 0 by simp [List.getD, List.getElem?_take, show j < i by omega]]; exact hI1.2.2 j (by omega))
    have HTL : (w.take i).length = i := by rw [List.length_take]; omega
    have HV := val_9 HTD (by omega) (Nat.le_refl _)
    rw [List.take_length] at HV
    have HN := hI1.2.1
    refine c_seq <| csr <| mvi rfl <| mvs rfl <| lenT (s := w) rfl uy9 <| cmp _ rfl rfl rfl <| jt <| c_cond rfl (fun h8 => ?_) (fun h8 => ?_)
    ·replace h8 := of_decide_eq_true h8
     refine c_skip <| e_then <| c_seq <| c_block <| c_seq <| csr <| mvs rfl <| mvi rfl <| idxT (s := w) i rfl rfl uy9 rfl (by first | omega | (simp; done) | (simp; omega) | (simp at *; omega)) <| cmp _ rfl rfl rfl <| mvb rfl <| jsplit 33 rfl (fun h9 => ?_) (fun h9 => ?_)
     ·replace h9 := of_decide_eq_true h9
      refine g_off rfl rfl rfl rfl <| g_off rfl rfl rfl rfl <| g_off rfl rfl rfl rfl <| g_off rfl rfl rfl rfl <| pkt (.bool _) rfl rfl <| jt <| c_true rfl <| csr <| agi rfl <| jt <| c_ret ?_
      exact j_z (own0 := []) (ro0 := []) (.inl rfl) rfl (hr1 Tryz.results59 (rvt (v := (.int _ _)) rfl)) rfl (⟨congrArg (Value.int _) (numV_chr (i := i) (by omega) (by omega)), rfl, rfl⟩)
     ·replace h9 := of_decide_eq_false h9
      refine g_on rfl rfl rfl <| mvs rfl <| g_on rfl rfl rfl <| mvi rfl <| g_on rfl rfl rfl <| idxT (s := w) i rfl rfl uy9 rfl (by first | omega | (simp; done) | (simp; omega) | (simp at *; omega)) <| g_on rfl rfl rfl <| cmp _ rfl rfl rfl <| pkf (.bool _) rfl rfl <| jt <| c_cond rfl (fun h10 => ?_) (fun h10 => ?_)
      ·replace h10 := of_decide_eq_true h10
       refine csr <| agi rfl <| jt <| c_ret ?_
       exact j_z (own0 := []) (ro0 := []) (.inl rfl) rfl (hr1 Tryz.results59 (rvt (v := (.int _ _)) rfl)) rfl (⟨congrArg (Value.int _) (numV_chr (i := i) (by omega) (by omega)), rfl, rfl⟩)
      ·replace h10 := of_decide_eq_false h10
       refine c_skip <| e_then ?_
       have HSU : ((List.getD w i 0) - 48).toNat = (List.getD w i 0).toNat - 48 := u8_sub (d := 48) (by show 48 ≤ _; omega)
       refine c_reg <| mvi rfl <| muli rfl rfl rfl (by omega) <| mvs rfl <| mvi rfl <| idxT (s := w) i rfl rfl uy9 rfl (by first | omega | (simp; done) | (simp; omega) | (simp at *; omega)) <| subU8 (a := (List.getD w i 0)) (b := (48 : UInt8)) rfl rfl <| cvI (((List.getD w i 0) - (48 : UInt8)).toNat : Int) rfl uy5 uy3 (wI64 (by have := UInt8.toNat_lt ((List.getD w i 0) - (48 : UInt8)); omega)) <| addi rfl rfl rfl (by omega) <| agi rfl <| jn <| e_in <| e_then <| c_reg <| mvi rfl <| addi rfl rfl rfl (by omega) <| agi rfl <| jn ?_
       exact e_loop (i + 1, n * 10 + ((List.getD w i 0) - 48).toNat) (⟨by omega, by rw [take_suc (by omega), valN_app, ← HN, HSU]; unfold dgv; rw [if_pos (by omega)], fun j hj => by rcases Nat.lt_or_ge j i with h | h; exact hI1.2.2 j h; rw [show j = i by omega]; exact dig_of (by omega) (by omega)⟩) (by show w.length - (i + 1) < w.length - i; omega) (⟨rfl, congrArg (Value.int _) (by omega), trivial⟩) rfl rfl rfl
    ·replace h8 := of_decide_eq_false h8
     refine c_exit rfl <| e_then <| csr <| mvi rfl <| agi rfl <| jt <| c_ret ?_
     exact j_z (own0 := []) (ro0 := []) (.inl rfl) rfl (hr1 Tryz.results59 (rvt (v := (.int _ _)) rfl)) rfl (⟨congrArg (Value.int _) (by rw [numV_done (by omega) (by omega) (fun hh => by first | omega | exact absurd hh.2 (by assumption)) (all_yes (fun j hj => hI1.2.2 j (by omega))), HN, show i = w.length by omega, List.take_length]), rfl, rfl⟩)
end Go.Proofs.YtakbbpahfclgnaaGreatDoor
namespace Go.Proofs.YtakbbpahfclgnaaGreatDoor
open Go Go.Proofs Go.PW
open Go.PW.Enc (enc val)
theorem lay49 : ∀ fs, Tryz.prog.underlying 49 = some (.struct fs) → Lay Tryz.prog fs [(0, 1), (1, 1)] := fun fs h => by rw [Tryz.underlying49] at h; cases h; unfold Lay; kernel_rfl
theorem z49 : Zt Tryz.prog 49 (.agg ⟨cat [pt (0 : Int), pt ([] : Str)]⟩) := by unfold Zt; kernel_rfl
theorem ty49 : Ty Tryz.prog 49 2 true := ⟨by kernel_rfl, by kernel_rfl⟩
theorem by49 : (Tryz.prog.info? 49).map (·.bytes) = some 24 := by kernel_rfl
theorem idxN_is {t : Str} {c : UInt8} {k : Nat} (h : ∀ j, j < k → List.getD t j 0 ≠ c) (hk : k < t.length) (hc : List.getD t k 0 = c) : idxN t c = k := by
  have hs := idxN_spec t c
  rcases Nat.lt_trichotomy (idxN t c) k with h1 | h1 | h1
  · exact absurd (hs.2 (by omega)) (h _ h1)
  · exact h1
  · exact absurd hc (hs.1 k h1)
theorem idxN_off {t : Str} {c : UInt8} (h : ∀ j, j < t.length → List.getD t j 0 ≠ c) : ¬ idxN t c < t.length := fun hl => h _ hl ((idxN_spec t c).2 hl)
theorem lines_go {s : Str} {f i : Nat} (hf : f ≤ i) (hi : i < s.length) (h : ∀ j, f ≤ j → j < i → List.getD s j 0 ≠ 10) (hc : List.getD s i 0 = 10) : linesL (s.drop f) = List.take (i - f) (List.drop f s) :: linesL (s.drop (i + 1)) := by
  have e : idxN (s.drop f) 10 = i - f := idxN_is (fun j hj => by rw [getD_drop]; exact h _ (by omega) (by omega)) (by rw [List.length_drop]; omega) (by rw [getD_drop, show f + (i - f) = i by omega]; exact hc)
  rw [linesL_cut (by rw [e, List.length_drop]; omega), e, List.drop_drop, show f + (i - f + 1) = i + 1 by omega]
theorem lines_end {s : Str} {f : Nat} (hf : f < s.length) (h : ∀ j, f ≤ j → j < s.length → List.getD s j 0 ≠ 10) : linesL (s.drop f) = [List.drop f s] :=
  linesL_last (by rw [List.length_drop]; omega) (idxN_off fun j hj => by rw [List.length_drop] at hj; rw [getD_drop]; exact h _ (by omega) (by omega))
theorem lines_none {s : Str} {f : Nat} (hf : ¬ f < s.length) : linesL (s.drop f) = [] := linesL_nil (by rw [List.length_drop]; omega)
def toW (x : Nat × Str) : WordR := ⟨x.1, x.2⟩
def WI (s : Str) (T acc : List WordR) (i : Nat) (fr : Int) : Prop := (fr = -1 ∧ T = acc ++ (wordsL s i).map toW) ∨ (∃ f : Nat, fr = (f : Int) ∧ f < i ∧ i ≤ s.length ∧ (∀ j, f ≤ j → j < i → List.getD s j 0 ≠ 32) ∧ T = acc ++ (wordsL s f).map toW)
theorem wl_is {s : Str} {f i : Nat} (hf : f < i) (hi : i ≤ s.length) (h : ∀ j, f ≤ j → j < i → List.getD s j 0 ≠ 32) (hc : i = s.length ∨ List.getD s i 0 = 32) : wlen s f = i - f := by
  unfold wlen
  by_cases hl : i = s.length
  · have := idxN_off (t := s.drop f) (c := 32) (fun j hj => by rw [List.length_drop] at hj; rw [getD_drop]; exact h _ (by omega) (by omega))
    have h2 := idxN_le (s.drop f) 32
    rw [List.length_drop] at this h2; omega
  · exact idxN_is (fun j hj => by rw [getD_drop]; exact h _ (by omega) (by omega)) (by rw [List.length_drop]; omega) (by rw [getD_drop, show f + (i - f) = i by omega]; exact hc.resolve_left hl)
theorem words_next {s : Str} {i : Nat} (hc : i = s.length ∨ List.getD s i 0 = 32) (hi : i ≤ s.length) : wordsL s (i + 1) = wordsL s i := by
  by_cases hl : i = s.length
  · rw [wordsL_out (by omega), wordsL_out (by omega)]
  · exact wordsL_skip (by omega) (hc.resolve_left hl)
theorem WI.cut {s : Str} {T acc : List WordR} {i : Nat} {fr : Int} (h : WI s T acc i fr) (h0 : 0 ≤ fr) (hi : i ≤ s.length) (hc : i = s.length ∨ List.getD s i 0 = 32) : WI s T (acc ++ [⟨fr, List.take (i - fr.toNat) (List.drop fr.toNat s)⟩]) (i + 1) (-1) := by
  rcases h with ⟨h, _⟩ | ⟨f, rfl, hf, hi, hn, e⟩
  · omega
  · have hw := wl_is hf hi hn hc
    refine .inl ⟨rfl, ?_⟩
    rw [e, wordsL_here (by omega) (hn f (Nat.le_refl _) hf), hw, show f + (i - f) = i by omega, words_next hc hi]
    simp [toW, word, hw]
theorem WI.skip {s : Str} {T acc : List WordR} {i : Nat} {fr : Int} (h : WI s T acc i fr) (h0 : fr < 0) (hi : i ≤ s.length) (hc : i = s.length ∨ List.getD s i 0 = 32) : WI s T acc (i + 1) fr := by
  rcases h with ⟨h, e⟩ | ⟨f, rfl, _⟩
  · exact .inl ⟨h, by rw [e, words_next hc hi]⟩
  · omega
theorem WI.begin {s : Str} {T acc : List WordR} {i : Nat} {fr : Int} (h : WI s T acc i fr) (h0 : fr < 0) (hi : i < s.length) (hc : List.getD s i 0 ≠ 32) : WI s T acc (i + 1) (i : Int) := by
  rcases h with ⟨h, e⟩ | ⟨f, rfl, _⟩
  · exact .inr ⟨i, rfl, by omega, by omega, fun j h1 h2 => by rw [show j = i by omega]; exact hc, e⟩
  · omega
theorem WI.on {s : Str} {T acc : List WordR} {i : Nat} {fr : Int} (h : WI s T acc i fr) (h0 : ¬ fr < 0) (hi : i < s.length) (hc : List.getD s i 0 ≠ 32) : WI s T acc (i + 1) fr := by
  rcases h with ⟨h, e⟩ | ⟨f, rfl, hf, hi', hn, e⟩
  · omega
  · exact .inr ⟨f, rfl, by omega, by omega, fun j h1 h2 => by rcases Nat.lt_or_ge j i with h3 | h3; exact hn j h1 h3; rw [show j = i by omega]; exact hc, e⟩
theorem WI.fin {s : Str} {T acc : List WordR} {i : Nat} {fr : Int} (h : WI s T acc i fr) (hi : s.length < i) : T = acc := by
  rcases h with ⟨_, e⟩ | ⟨f, rfl, hf, hi', _, e⟩
  · rw [e, wordsL_out (by omega)]; simp
  · omega
theorem WI.lt {s : Str} {T acc : List WordR} {i : Nat} {fr : Int} (h : WI s T acc i fr) (h0 : 0 ≤ fr) : fr < (i : Int) ∧ (i : Int) ≤ (s.length : Int) := by
  rcases h with ⟨h, _⟩ | ⟨f, rfl, hf, hi, _⟩ <;> omega
theorem WI.ge {s : Str} {T acc : List WordR} {i : Nat} {fr : Int} (h : WI s T acc i fr) : -1 ≤ fr ∧ fr ≤ (s.length : Int) := by
  rcases h with ⟨h, _⟩ | ⟨f, rfl, hf, hi, _⟩ <;> omega
theorem Lines_ct (s : Str) (hs : s.length ≤ 1000000) : Ct Tryz.prog 17 [strV s] [] [] (fun v o r => ∃ o' : Ow, o'.ok (linesL s) ∧ v = .slice o'.adr (linesL s).length o'.cap ∧ o = [o'.seg (linesL s) 9] ∧ r = []) := by
 refine ct_enter Tryz.func17 rfl Tryz.ntmps17 (by kernel_rfl) rfl fun w0 => ?_
 refine csr <| agl rfl <| jsr <| agl rfl <| jsr <| agi rfl <| jt <| c_seq <| csr <| agi rfl <| jt <| c_block <| c_addE <| c_loop (σ := Nat × Nat × List Str × Ow) (fun (i, f, a, o) => i ≤ s.length ∧ f ≤ i ∧ o.ok a ∧ a.length ≤ i ∧ (∀ j, f ≤ j → j < i → List.getD s j 0 ≠ 10) ∧ linesL s = a ++ linesL (s.drop f)) (fun (i, f, a, o) => s.length - i) (fun (i, f, a, o) => [(5, .int .i64 (i : Int)), (4, .int .i64 (f : Int)), (3, .slice o.adr a.length o.cap)]) (fun (i, f, a, o) => [o.seg a 9]) (fun (i, f, a, o) => []) [3, 4, 5, 6, 7, 8, 9, 10, 11, 12, 13, 14, 15, 16, 17, 18, 19, 20, 21, 22, 23, 24] (0, 0, [], Ow.nil) (⟨Nat.zero_le _, Nat.le_refl _, Ow.nil_ok, Nat.le_refl _, (fun j h1 h2 => by omega), by simp⟩) ⟨rfl, rfl, rfl, trivial⟩ rfl rfl ?_
 rintro ⟨i, f, a, o⟩ g1 hI1
 try dsimp only at hI1 ⊢
 have HF1 := hI1.2.1
 have HA1 := hI1.2.2.2.1
 have HN1 := hI1.2.2.2.2.1
 have HE1 := hI1.2.2.2.2.2
 refine c_seq <| csr <| mvi rfl <| mvs rfl <| lenT (s := s) rfl uy9 <| cmp _ rfl rfl rfl <| jt <| c_cond rfl (fun h1 => ?_) (fun h1 => ?_)
 ·replace h1 := of_decide_eq_true h1
  refine c_skip <| e_then <| c_seq <| c_block <| csr <| mvs rfl <| mvi rfl <| idxT (s := s) i rfl rfl uy9 rfl (by first | omega | (simp; done) | (simp; omega) | (simp at *; omega)) <| equ8 (a := (List.getD s i 0)) (b := (10 : UInt8)) _ rfl rfl rfl <| jt <| c_cond rfl (fun h2 => ?_) (fun h2 => ?_)
  ·replace h2 := of_decide_eq_true h2
   refine csr <| mvl rfl <| mvs rfl <| mvi rfl <| mvi rfl <| cutT (s := s) f i rfl uy9 ⟨_, rfl⟩ ⟨_, rfl⟩ (by first | omega | (simp; done) | (simp; omega)) (by first | omega | (simp; done) | (simp; omega)) (List.take (i - f) (List.drop f s)) rfl <| bsl (α := Str) ([(List.take (i - f) (List.drop f s))]) uy37 ty9.sz rfl (by decide) z9 rfl fun b21 => ⟨trivial, ?_⟩
   refine app 0 o a ([(List.take (i - f) (List.drop f s))] : List Str) hI1.2.2.1 rfl ⟨rfl, rfl, rfl⟩ rfl rfl (gives_own (ys := ([(List.take (i - f) (List.drop f s))] : List Str)) (pre := []) (post := []) 1 rfl (by simp) rfl) uy37 uy37 (.inl ⟨_, rfl⟩) ty9.sz by9 z9 rfl (by simp; omega) rfl fun o22_1 hk22_1 => ⟨trivial, ?_⟩
   refine agl rfl <| jr <| mvi rfl <| addi rfl rfl rfl (by omega) <| agi rfl <| jn <| e_in <| e_then <| c_reg <| mvi rfl <| addi rfl rfl rfl (by omega) <| agi rfl <| jn <| e_keep [0] [1] [_] rfl (by kernel_rfl) ?_
   exact e_loop (i + 1, i + 1, (a ++ ([(List.take (i - f) (List.drop f s))] : List Str)), o22_1) (by dsimp only; exact ⟨by omega, by omega, hk22_1, by simp; omega, (fun j h1 h2 => by omega), by rw [HE1, lines_go HF1 (by omega) HN1 (by assumption)]; simp⟩) (by show s.length - (i + 1) < s.length - i; omega) (⟨rfl, rfl, rfl, trivial⟩) rfl rfl rfl
  ·replace h2 := of_decide_eq_false h2
   refine c_skip <| e_in <| e_then <| c_reg <| mvi rfl <| addi rfl rfl rfl (by omega) <| agi rfl <| jn ?_
   exact e_loop (i + 1, f, a, o) (by dsimp only; exact ⟨by omega, by omega, hI1.2.2.1, by omega, (fun j h1 h2 => by rcases Nat.lt_or_ge j i with h | h; exact HN1 j h1 h; rw [show j = i by omega]; assumption), HE1⟩) (by show s.length - (i + 1) < s.length - i; omega) (⟨rfl, rfl, rfl, trivial⟩) rfl rfl rfl
 ·replace h1 := of_decide_eq_false h1
  refine c_exit rfl <| e_then <| c_seq <| csr <| mvi rfl <| mvs rfl <| lenT (s := s) rfl uy9 <| cmp _ rfl rfl rfl <| jt <| c_cond rfl (fun h3 => ?_) (fun h3 => ?_)
  ·replace h3 := of_decide_eq_true h3
   refine c_reg <| mvl rfl <| mvs rfl <| mvi rfl <| cutT (s := s) f s.length rfl uy9 ⟨_, rfl⟩ rfl (by first | omega | (simp; done) | (simp; omega)) (by first | omega | (simp; done) | (simp; omega)) (List.drop f s) (cut_hi _ _) <| bsl (α := Str) ([(List.drop f s)]) uy37 ty9.sz rfl (by decide) z9 rfl fun b33 => ⟨trivial, ?_⟩
   refine app 0 o a ([(List.drop f s)] : List Str) hI1.2.2.1 rfl ⟨rfl, rfl, rfl⟩ rfl rfl (gives_own (ys := ([(List.drop f s)] : List Str)) (pre := []) (post := []) 1 rfl (by simp) rfl) uy37 uy37 (.inl ⟨_, rfl⟩) ty9.sz by9 z9 rfl (by simp; omega) rfl fun o34_2 hk34_2 => ⟨trivial, ?_⟩
   refine agl rfl <| jsr <| mvl rfl <| agl rfl <| jt <| c_ret ?_
   exact j_end (own0 := []) (ro0 := []) (.inl rfl) rfl (hr1 Tryz.results17 (rvt (v := (.slice _ _ _)) rfl)) [0] [1] [_] [_] [] _ rfl rfl (by kernel_rfl) rfl impl_nil (⟨o34_2, (by rw [HE1, lines_end (by omega) (fun j h1 h2 => HN1 j h1 (by omega))]; exact hk34_2), by rw [HE1, lines_end (by omega) (fun j h1 h2 => HN1 j h1 (by omega))], by rw [HE1, lines_end (by omega) (fun j h1 h2 => HN1 j h1 (by omega))], rfl⟩)
  ·replace h3 := of_decide_eq_false h3
   refine c_skip <| e_then <| csr <| mvl rfl <| agl rfl <| jt <| c_ret ?_
   exact j_end (own0 := []) (ro0 := []) (.inl rfl) rfl (hr1 Tryz.results17 (rvt (v := (.slice _ _ _)) rfl)) [0] [] [_] [] [] _ rfl rfl (by kernel_rfl) rfl impl_nil (⟨o, (by rw [HE1, lines_none (by omega), List.append_nil]; exact hI1.2.2.1), by rw [HE1, lines_none (by omega), List.append_nil], by rw [HE1, lines_none (by omega), List.append_nil], rfl⟩)
theorem Words_ct (s : Str) (hs : s.length ≤ 1000000) : Ct Tryz.prog 18 [strV s] [] [] (fun v w r => ∃ o' : Ow, o'.ok ((wordsL s 0).map toW) ∧ v = .slice o'.adr ((wordsL s 0).map toW).length o'.cap ∧ w = [o'.seg ((wordsL s 0).map toW) 49] ∧ r = []) := by
 refine ct_enter Tryz.func18 rfl Tryz.ntmps18 (by kernel_rfl) rfl fun w0 => ?_
 refine csr <| agl rfl <| jsr <| agl rfl <| jsr <| agi rfl <| jt <| c_seq <| csr <| agi rfl <| jt <| c_block <| c_addE <| c_loop (σ := Nat × Int × List WordR × Ow) (fun (i, fr, a, o) => i ≤ s.length + 1 ∧ o.ok a ∧ a.length ≤ i ∧ WI s ((wordsL s 0).map toW) a i fr) (fun (i, fr, a, o) => s.length + 1 - i) (fun (i, fr, a, o) => [(5, .int .i64 (i : Int)), (4, .int .i64 fr), (3, .slice o.adr a.length o.cap)]) (fun (i, fr, a, o) => [o.seg a 49]) (fun (i, fr, a, o) => []) [3, 4, 5, 6, 7, 8, 9, 10, 11, 12, 13, 14, 15, 16, 17, 18, 19, 20, 21, 22, 23, 24, 25, 26, 27, 28, 29, 30, 31, 32, 33, 34, 35, 36, 37, 38, 39, 40, 41, 42, 43] (0, -1, [], Ow.nil) (⟨Nat.zero_le _, Ow.nil_ok, Nat.le_refl _, .inl ⟨rfl, by simp⟩⟩) ⟨rfl, rfl, rfl, trivial⟩ rfl rfl ?_
 rintro ⟨i, fr, a, o⟩ g1 hI1
 try dsimp only at hI1 ⊢
 have HA1 := hI1.2.2.1
 have HG := hI1.2.2.2.ge
 refine c_seq <| csr <| mvi rfl <| mvs rfl <| lenT (s := s) rfl uy9 <| cmp _ rfl rfl rfl <| jt <| c_cond rfl (fun h1 => ?_) (fun h1 => ?_)
 ·replace h1 := of_decide_eq_true h1
  refine c_skip <| e_then <| c_seq <| c_block <| csr <| mvi rfl <| mvs rfl <| lenT (s := s) rfl uy9 <| cmp _ rfl rfl rfl <| mvb rfl <| jsplit 17 rfl (fun h2 => ?_) (fun h2 => ?_)
  ·replace h2 := of_decide_eq_true h2
   refine g_off rfl rfl rfl rfl <| g_off rfl rfl rfl rfl <| g_off rfl rfl rfl rfl <| g_off rfl rfl rfl rfl <| pkt (.bool _) rfl rfl <| agb rfl <| jt <| c_seq <| csr <| mvb rfl <| mvb rfl <| g_on rfl rfl rfl <| mvi rfl <| g_on rfl rfl rfl <| cmp _ rfl rfl rfl <| pkt (.bool _) rfl rfl <| jt <| c_cond rfl (fun h3 => ?_) (fun h3 => ?_)
   ·replace h3 := of_decide_eq_true h3
    refine c_seq ?_
    have HLT := hI1.2.2.2.lt (by omega)
    refine c_reg <| mvl rfl <| mvi rfl <| mvs rfl <| mvi rfl <| mvi rfl <| cutT (s := s) ((fr).toNat) i rfl uy9 ⟨_, congrArg (Value.int _) (by omega)⟩ ⟨_, rfl⟩ (by first | omega | (simp; done) | (simp; omega)) (by first | omega | (simp; done) | (simp; omega)) (List.take (i - ((fr).toNat)) (List.drop ((fr).toNat) s)) rfl <| bld [pt (0 : Int), pt ([] : Str)] [(0, pt fr), (1, pt (List.take (i - ((fr).toNat)) (List.drop ((fr).toNat) s)))] _ uy49 (lay49 _ uy49) z49 rfl rfl rfl <| bsl (α := WordR) ([(⟨fr, List.take (i - fr.toNat) (List.drop fr.toNat s)⟩ : WordR)]) uy46 ty49.sz rfl (by decide) z49 rfl fun b35 => ⟨trivial, ?_⟩
    refine app 0 o a ([(⟨fr, List.take (i - fr.toNat) (List.drop fr.toNat s)⟩ : WordR)] : List WordR) hI1.2.1 rfl ⟨rfl, rfl, rfl⟩ rfl rfl (gives_own (ys := ([(⟨fr, List.take (i - fr.toNat) (List.drop fr.toNat s)⟩ : WordR)] : List WordR)) (pre := []) (post := []) 1 rfl (by simp) rfl) uy46 uy46 (.inl ⟨_, rfl⟩) ty49.sz by49 z49 rfl (by simp; omega) rfl fun o36_1 hk36_1 => ⟨trivial, ?_⟩
    refine agl rfl <| jr <| agi rfl <| jsr <| mvb rfl <| not_ rfl <| mvb rfl <| g_off rfl rfl rfl rfl <| g_off rfl rfl rfl rfl <| pkf (.bool _) rfl rfl <| jt <| c_false rfl <| c_skip <| e_in <| e_then <| c_reg <| mvi rfl <| addi rfl rfl rfl (by omega) <| agi rfl <| jn <| e_keep [0] [1] [_] rfl (by kernel_rfl) ?_
    exact e_loop (i + 1, -1, (a ++ ([(⟨fr, List.take (i - fr.toNat) (List.drop fr.toNat s)⟩ : WordR)] : List WordR)), o36_1) (by dsimp only; exact ⟨by omega, hk36_1, by (try simp); omega, hI1.2.2.2.cut (by omega) (by omega) (by first | exact .inl (by omega) | exact .inr (by assumption))⟩) (by show s.length + 1 - (i + 1) < s.length + 1 - i; omega) (⟨rfl, rfl, rfl, trivial⟩) rfl rfl rfl
   ·replace h3 := of_decide_eq_false h3
    refine c_skip <| e_then <| csr <| mvb rfl <| not_ rfl <| mvb rfl <| g_off rfl rfl rfl rfl <| g_off rfl rfl rfl rfl <| pkf (.bool _) rfl rfl <| jt <| c_false rfl <| c_skip <| e_in <| e_then <| c_reg <| mvi rfl <| addi rfl rfl rfl (by omega) <| agi rfl <| jn ?_
    exact e_loop (i + 1, fr, a, o) (by dsimp only; exact ⟨by omega, hI1.2.1, by (try simp); omega, hI1.2.2.2.skip (by omega) (by omega) (by first | exact .inl (by omega) | exact .inr (by assumption))⟩) (by show s.length + 1 - (i + 1) < s.length + 1 - i; omega) (⟨rfl, rfl, rfl, trivial⟩) rfl rfl rfl
  ·replace h2 := of_decide_eq_false h2
   refine g_on rfl rfl rfl <| mvs rfl <| g_on rfl rfl rfl <| mvi rfl <| g_on rfl rfl rfl <| idxT (s := s) i rfl rfl uy9 rfl (by first | omega | (simp; done) | (simp; omega) | (simp at *; omega)) <| g_on rfl rfl rfl <| equ8 (a := (List.getD s i 0)) (b := (32 : UInt8)) _ rfl rfl rfl <| pkf (.bool _) rfl rfl <| agb rfl <| jt <| c_seq <| csr <| mvb rfl <| mvb rfl <| jsplit 24 rfl (fun h4 => ?_) (fun h4 => ?_)
   ·replace h4 := of_decide_eq_true h4
    refine g_on rfl rfl rfl <| mvi rfl <| g_on rfl rfl rfl <| cmp _ rfl rfl rfl <| pkt (.bool _) rfl rfl <| jt <| c_cond rfl (fun h5 => ?_) (fun h5 => ?_)
    ·replace h5 := of_decide_eq_true h5
     refine c_seq ?_
     have HLT := hI1.2.2.2.lt (by omega)
     refine c_reg <| mvl rfl <| mvi rfl <| mvs rfl <| mvi rfl <| mvi rfl <| cutT (s := s) ((fr).toNat) i rfl uy9 ⟨_, congrArg (Value.int _) (by omega)⟩ ⟨_, rfl⟩ (by first | omega | (simp; done) | (simp; omega)) (by first | omega | (simp; done) | (simp; omega)) (List.take (i - ((fr).toNat)) (List.drop ((fr).toNat) s)) rfl <| bld [pt (0 : Int), pt ([] : Str)] [(0, pt fr), (1, pt (List.take (i - ((fr).toNat)) (List.drop ((fr).toNat) s)))] _ uy49 (lay49 _ uy49) z49 rfl rfl rfl <| bsl (α := WordR) ([(⟨fr, List.take (i - fr.toNat) (List.drop fr.toNat s)⟩ : WordR)]) uy46 ty49.sz rfl (by decide) z49 rfl fun b35 => ⟨trivial, ?_⟩
     refine app 0 o a ([(⟨fr, List.take (i - fr.toNat) (List.drop fr.toNat s)⟩ : WordR)] : List WordR) hI1.2.1 rfl ⟨rfl, rfl, rfl⟩ rfl rfl (gives_own (ys := ([(⟨fr, List.take (i - fr.toNat) (List.drop fr.toNat s)⟩ : WordR)] : List WordR)) (pre := []) (post := []) 1 rfl (by simp) rfl) uy46 uy46 (.inl ⟨_, rfl⟩) ty49.sz by49 z49 rfl (by simp; omega) rfl fun o36_2 hk36_2 => ⟨trivial, ?_⟩
     refine agl rfl <| jr <| agi rfl <| jsr <| mvb rfl <| j_re 37 (.bool true) (congrArg Value.bool (decide_eq_true (by assumption))) <| not_ rfl <| mvb rfl <| g_off rfl rfl rfl rfl <| g_off rfl rfl rfl rfl <| pkf (.bool _) rfl rfl <| jt <| c_false rfl <| c_skip <| e_in <| e_then <| c_reg <| mvi rfl <| addi rfl rfl rfl (by omega) <| agi rfl <| jn <| e_keep [0] [1] [_] rfl (by kernel_rfl) ?_
     exact e_loop (i + 1, -1, (a ++ ([(⟨fr, List.take (i - fr.toNat) (List.drop fr.toNat s)⟩ : WordR)] : List WordR)), o36_2) (by dsimp only; exact ⟨by omega, hk36_2, by (try simp); omega, hI1.2.2.2.cut (by omega) (by omega) (by first | exact .inl (by omega) | exact .inr (by assumption))⟩) (by show s.length + 1 - (i + 1) < s.length + 1 - i; omega) (⟨rfl, rfl, rfl, trivial⟩) rfl rfl rfl
    ·replace h5 := of_decide_eq_false h5
     refine c_skip <| e_then <| csr <| mvb rfl <| j_re 37 (.bool true) (congrArg Value.bool (decide_eq_true (by assumption))) <| not_ rfl <| mvb rfl <| g_off rfl rfl rfl rfl <| g_off rfl rfl rfl rfl <| pkf (.bool _) rfl rfl <| jt <| c_false rfl <| c_skip <| e_in <| e_then <| c_reg <| mvi rfl <| addi rfl rfl rfl (by omega) <| agi rfl <| jn ?_
     exact e_loop (i + 1, fr, a, o) (by dsimp only; exact ⟨by omega, hI1.2.1, by (try simp); omega, hI1.2.2.2.skip (by omega) (by omega) (by first | exact .inl (by omega) | exact .inr (by assumption))⟩) (by show s.length + 1 - (i + 1) < s.length + 1 - i; omega) (⟨rfl, rfl, rfl, trivial⟩) rfl rfl rfl
   ·replace h4 := of_decide_eq_false h4
    refine g_off rfl rfl rfl rfl <| g_off rfl rfl rfl rfl <| pkf (.bool _) rfl rfl <| jt <| c_false rfl <| c_skip <| e_then <| csr <| mvb rfl <| j_re 37 (.bool false) (congrArg Value.bool (decide_eq_false (by assumption))) <| not_ rfl <| mvb rfl <| g_on rfl rfl rfl <| mvi rfl <| g_on rfl rfl rfl <| cmp _ rfl rfl rfl <| pkt (.bool _) rfl rfl <| jt <| c_cond rfl (fun h6 => ?_) (fun h6 => ?_)
    ·replace h6 := of_decide_eq_true h6
     refine c_reg <| mvi rfl <| agi rfl <| jn <| e_in <| e_then <| c_reg <| mvi rfl <| addi rfl rfl rfl (by omega) <| agi rfl <| jn ?_
     exact e_loop (i + 1, (i : Int), a, o) (by dsimp only; exact ⟨by omega, hI1.2.1, by (try simp); omega, hI1.2.2.2.begin (by omega) (by omega) (by assumption)⟩) (by show s.length + 1 - (i + 1) < s.length + 1 - i; omega) (⟨rfl, rfl, rfl, trivial⟩) rfl rfl rfl
    ·replace h6 := of_decide_eq_false h6
     refine c_skip <| e_in <| e_then <| c_reg <| mvi rfl <| addi rfl rfl rfl (by omega) <| agi rfl <| jn ?_
     exact e_loop (i + 1, fr, a, o) (by dsimp only; exact ⟨by omega, hI1.2.1, by (try simp); omega, hI1.2.2.2.on (by omega) (by omega) (by assumption)⟩) (by show s.length + 1 - (i + 1) < s.length + 1 - i; omega) (⟨rfl, rfl, rfl, trivial⟩) rfl rfl rfl
 ·replace h1 := of_decide_eq_false h1
  refine c_exit rfl <| e_then <| csr <| mvl rfl <| agl rfl <| jt <| c_ret ?_
  exact j_end (own0 := []) (ro0 := []) (.inl rfl) rfl (hr1 Tryz.results18 (rvt (v := (.slice _ _ _)) rfl)) [0] [] [_] [] [] _ rfl rfl (by kernel_rfl) rfl impl_nil (⟨o, by rw [hI1.2.2.2.fin (by omega)]; exact hI1.2.1, by rw [hI1.2.2.2.fin (by omega)], by rw [hI1.2.2.2.fin (by omega)], rfl⟩)
end Go.Proofs.YtakbbpahfclgnaaGreatDoor
namespace Go.Proofs.YtakbbpahfclgnaaGreatDoor
open Go Go.Proofs Go.PW
open Go.PW.Enc (enc val)
section
variable {fit : UInt8 → Str → Bool} {why : Nat} {s : Str} {acc : List Str} {k : UInt8} {ks : List UInt8} {x : Nat × Str} {r : List (Nat × Str)} {q : Nat}
theorem argl_cbad (hk : k = 99) (hp : parseR (s.drop x.1) = .inl q) : argsR fit why s acc (k :: ks) (x :: r) = .inl (x.1 + q, 90) := by
  obtain ⟨a, w⟩ := x; rw [argsR, if_pos hk, hp]
theorem argl_cok {y : (Con × List UInt32) × Nat} (hk : k = 99) (hp : parseR (s.drop x.1) = .inr y) : argsR fit why s acc (k :: ks) (x :: r) = .inr (acc ++ [s.drop x.1], []) := by
  obtain ⟨a, w⟩ := x; rw [argsR, if_pos hk, hp]
theorem argl_no (hk : ¬ k = 99) (hp : fit k x.2 = false) : argsR fit why s acc (k :: ks) (x :: r) = .inl (x.1, why) := by
  obtain ⟨a, w⟩ := x; rw [argsR, if_neg hk, if_neg (by rw [hp]; simp)]
theorem argl_yes (hk : ¬ k = 99) (hp : fit k x.2 = true) : argsR fit why s acc (k :: ks) (x :: r) = argsR fit why s (acc ++ [x.2]) ks r := by
  obtain ⟨a, w⟩ := x; rw [argsR, if_neg hk, if_pos hp]
end
theorem ws_at {s : Str} {x : Nat × Str} {r : List (Nat × Str)} (hw : wordsL s 0 = x :: r) {i : Nat} (hi : i < r.length) : ((wordsL s 0).map toW)[i + 1]? = some (toW (List.getD r i (0, []))) := by
  rw [hw]; simp [List.getD, hi]
theorem ws_mem {s : Str} {x : Nat × Str} {r : List (Nat × Str)} (hw : wordsL s 0 = x :: r) {i : Nat} (hi : i < r.length) : (List.getD r i (0, [])).1 < s.length ∧ 1 ≤ (List.getD r i (0, [])).2.length ∧ (List.getD r i (0, [])).1 + (List.getD r i (0, [])).2.length ≤ s.length := by
  have hm : List.getD r i (0, []) ∈ wordsL s 0 := by rw [hw, show List.getD r i (0, []) = r[i] by simp [List.getD, hi]]; exact List.mem_cons_of_mem _ (List.getElem_mem hi)
  have := wordsL_mem s.length s 0 (by omega) _ hm
  exact ⟨this.1, this.2.1, this.2.2.1⟩
theorem ws_len {s : Str} {x : Nat × Str} {r : List (Nat × Str)} (hw : wordsL s 0 = x :: r) : ((wordsL s 0).map toW).length = r.length + 1 := by rw [hw]; simp
theorem drop_g {α : Type} {l : List α} {i : Nat} (z : α) (hi : i < l.length) : l.drop i = List.getD l i z :: l.drop (i + 1) := by
  rw [List.drop_eq_getElem_cons hi]; simp [List.getD, hi]
theorem getD_memK {l : List UInt8} {i : Nat} (hi : i < l.length) : List.getD l i 0 ∈ l := by simp [List.getD, hi]
end Go.Proofs.YtakbbpahfclgnaaGreatDoor
namespace Go.Proofs.YtakbbpahfclgnaaGreatDoor
open Go Go.Proofs Go.PW
open Go.PW.Enc (enc val)
theorem ty29 : Ty Tryz.prog 29 3 true := ⟨by kernel_rfl, by kernel_rfl⟩
theorem words_ne {s : Str} (h : ¬ (((wordsL s 0).map toW).length : Int) = 0) : ∃ a wd r, wordsL s 0 = (a, wd) :: r := by
  cases hw : wordsL s 0 with
  | nil => rw [hw] at h; exact absurd rfl h
  | cons x r => exact ⟨x.1, x.2, r, rfl⟩
theorem words_no {s : Str} (h : (((wordsL s 0).map toW).length : Int) = 0) : wordsL s 0 = [] := by
  cases hw : wordsL s 0 with
  | nil => rfl
  | cons x r => rw [hw] at h; simp at h; omega
end Go.Proofs.YtakbbpahfclgnaaGreatDoor
namespace Go.Proofs.YtakbbpahfclgnaaGreatDoor
open Go Go.Proofs Go.PW
open Go.PW.Enc (enc val)
theorem ty27 : Ty Tryz.prog 27 1 false := ⟨by kernel_rfl, by kernel_rfl⟩
theorem eq3 : EqT Tryz.prog 3 1 Int := eqT_int Tryz.underlying3
theorem eq27 : EqT Tryz.prog 27 1 Int := eqT_int Tryz.underlying27
theorem eq29 : EqT Tryz.prog 29 2 FaultT := eqT_struct (ps := [fun s => pt s.line, fun s => pt s.at_, fun s => pt s.why]) (bs := [fun a b => decide (a.line = b.line), fun a b => decide (a.at_ = b.at_), fun a b => decide (a.why = b.why)]) Tryz.underlying29 Tryz.stoodInHeld29 (fun _ => rfl)
  (.cons (by decide) rfl (fun _ => rfl) (fun _ => rfl) ⟨by kernel_rfl, by kernel_rfl⟩ (fun d x y w => eq3 (d + 0) x.line y.line w)
    (.cons (by decide) rfl (fun _ => rfl) (fun _ => rfl) ⟨by kernel_rfl, by kernel_rfl⟩ (fun d x y w => eq3 (d + 0) x.at_ y.at_ w)
    (.cons (by decide) rfl (fun _ => rfl) (fun _ => rfl) ⟨by kernel_rfl, by kernel_rfl⟩ (fun d x y w => eq27 (d + 0) x.why y.why w)
    (.nil _))))
  (fun x y => by cases x; cases y; simp [Bool.and_assoc])
theorem z40 : Zt Tryz.prog 40 ((p1 (.pointer none)).v) := by unfold Zt; kernel_rfl
theorem ty40 : Ty Tryz.prog 40 1 false := ⟨by kernel_rfl, by kernel_rfl⟩
def CmdO.z : CmdO := ⟨0, [], [], Ow.nil⟩
theorem map_at {L : List CmdO} {i : Nat} (hi : i < L.length) : (L.map CmdO.h)[i]? = some (CmdO.h (List.getD L i CmdO.z)) := by simp [List.getD, hi]
theorem getD_in {L : List CmdO} {i : Nat} (hi : i < L.length) : List.getD L i CmdO.z ∈ L := by simp [List.getD, hi]
theorem args_impl {src : List Seg} {L : List CmdO} {c : CmdO} {E : Nat} (j : Nat) (hs : src[j]? = some (argsS E L)) (hc : c ∈ L) : Impl src [c.o.vs.seg c.args] :=
  impl_trans (b := [c.o.seg c.args E]) (fun s h p hp => by
    rw [List.mem_singleton] at h; subst h
    exact ⟨_, List.mem_of_getElem? hs, p, List.mem_flatMap.2 ⟨c, hc, hp⟩, rfl, fun _ h => h⟩) (ow_impl 0 rfl)
theorem cm_at {L M : List CmdO} (h : L.map CmdO.cm = M.map CmdO.cm) {i : Nat} (hi : i < L.length) : (List.getD L i CmdO.z).line = (List.getD M i CmdO.z).line ∧ (List.getD L i CmdO.z).word = (List.getD M i CmdO.z).word ∧ (List.getD L i CmdO.z).args = (List.getD M i CmdO.z).args := by
  have hl : L.length = M.length := by have := congrArg List.length h; simpa using this
  have e := congrArg (fun l => l[i]?) h
  simp only [List.getElem?_map, List.getElem?_eq_getElem hi, List.getElem?_eq_getElem (show i < M.length by omega), Option.map_some, Option.some.injEq, CmdO.cm, Cm.mk.injEq] at e
  simpa [List.getD, hi, show i < M.length by omega] using e
end Go.Proofs.YtakbbpahfclgnaaGreatDoor
namespace Go.Proofs.YtakbbpahfclgnaaGreatDoor
open Go Go.Proofs Go.PW
open Go.PW.Enc (enc val)
theorem args_split {L : List CmdO} {i : Nat} (hi : i < L.length) (E : Nat) : (argsS E (L.take i ++ L.drop (i + 1)) ++ (List.getD L i CmdO.z).o.seg (List.getD L i CmdO.z).args E).Perm (argsS E L) := by
  have e : L = L.take i ++ List.getD L i CmdO.z :: L.drop (i + 1) := by rw [← drop_g CmdO.z hi, List.take_append_drop]
  conv => rhs; rw [e]
  simp only [argsS, List.flatMap_append, List.flatMap_cons, List.append_assoc]
  exact List.Perm.append_left _ List.perm_append_comm
theorem args_join {L : List CmdO} {i : Nat} (hi : i < L.length) (c : CmdO) (E : Nat) : (argsS E (L.set i c)).Perm (argsS E (L.take i ++ L.drop (i + 1)) ++ c.o.seg c.args E) := by
  rw [List.set_eq_take_append_cons_drop, if_pos hi]
  simp only [argsS, List.flatMap_append, List.flatMap_cons, List.append_assoc]
  exact List.Perm.append_left _ List.perm_append_comm
theorem set_h {L : List CmdO} {i : Nat} (hi : i < L.length) {c : CmdO} (hc : c.h = (List.getD L i CmdO.z).h) : (L.set i c).map CmdO.h = L.map CmdO.h := by
  rw [List.map_set, hc, show (List.getD L i CmdO.z).h = (L.map CmdO.h)[i]'(by simpa using hi) by simp [List.getD, hi]]
  exact List.set_getElem_self ..
theorem okL_set {L : List CmdO} {i : Nat} {c : CmdO} (h : okL L) (hc : c.o.ok c.args) : okL (L.set i c) := fun x hx => by
  rcases List.mem_or_eq_of_mem_set hx with h1 | h1
  · exact h x h1
  · subst h1; exact hc
theorem getD_setC {L : List CmdO} {i j : Nat} (hi : i < L.length) (c : CmdO) : List.getD (L.set i c) j CmdO.z = if j = i then c else List.getD L j CmdO.z := by
  by_cases h : j = i
  · subst h; simp [List.getD, hi]
  · rw [if_neg h]; simp only [List.getD]; rw [List.getElem?_set_ne (fun e => h e.symm)]
theorem h_len {L N : List CmdO} (h : N.map CmdO.h = L.map CmdO.h) : N.length = L.length := by have := congrArg List.length h; simpa using this
theorem h_args {L N : List CmdO} (h : N.map CmdO.h = L.map CmdO.h) {i : Nat} (hi : i < L.length) : (List.getD N i CmdO.z).args.length = (List.getD L i CmdO.z).args.length := by
  have hl := h_len h
  have e := congrArg (fun l => l[i]?) h
  simp only [List.getElem?_map, List.getElem?_eq_getElem hi, List.getElem?_eq_getElem (show i < N.length by omega), Option.map_some, Option.some.injEq, CmdO.h, CmdH.mk.injEq, SlH.mk.injEq] at e
  simpa [List.getD, hi, show i < N.length by omega] using e.2.2.2.1
end Go.Proofs.YtakbbpahfclgnaaGreatDoor
namespace Go.Proofs.YtakbbpahfclgnaaGreatDoor
open Go Go.Proofs Go.PW
open Go.PW.Enc (enc val)
theorem take_setK {xs : List Str} {k : Nat} {x : Str} (h : xs.take k = List.replicate k x) (hk : k < xs.length) : (xs.set k x).take (k + 1) = List.replicate (k + 1) x := by
  rw [List.take_set, List.take_succ_eq_append_getElem hk, List.set_append_right _ _ (by rw [List.length_take]; exact Nat.min_le_left _ _), h]
  simp [Nat.min_eq_left (Nat.le_of_lt hk), List.replicate_succ']
theorem set_oh {c : CmdO} {o : Ow} (ha : o.adr = c.o.adr) (hc : o.cap = c.o.cap) : (⟨c.line, c.word, c.args, o⟩ : CmdO).h = c.h := by simp [CmdO.h, ha, hc]
end Go.Proofs.YtakbbpahfclgnaaGreatDoor
namespace Go.Proofs.YtakbbpahfclgnaaGreatDoor
open Go Go.Proofs Go.PW
open Go.PW.Enc (enc val)
theorem mk_at {xs : List Str} {n k : Nat} {x : Str} (h : xs = List.replicate n x) (hk : k < xs.length) : List.getD xs k [] = x := by
  subst h; simp at hk; simp [List.getD, hk]
theorem impl_empty {src : List Seg} : Impl src [([] : Seg)] := fun s hs p hp => by
  rw [List.mem_singleton] at hs; subst hs; cases hp
end Go.Proofs.YtakbbpahfclgnaaGreatDoor
namespace Go.Proofs.YtakbbpahfclgnaaGreatDoor
open Go Go.Proofs Go.PW
open Go.PW.Enc (enc val)
def fit28 (k : UInt8) (w : Str) : Bool :=
  if k = 118 then decide (w = [49]) || decide (w = [50])
  else if k = 107 then isNum w && decide ((valN 10 w : Int) ≤ 1000)
  else if k = 116 then isNum w && decide ((valN 10 w : Int) ≤ 2000)
  else if k = 110 then isNum w
  else if k = 112 then w.all lowB && decide ((w.length : Int) ≤ 15)
  else if k = 103 then w.all lowB && decide ((w.length : Int) ≤ 16)
  else if k = 68 then decide (w = [49]) || decide (w = [50]) || decide (w = [51]) || decide (w = [52])
  else decide ((w.length : Int) ≤ 64) && w.all seedB
theorem digit_1 {w : Str} (h : w.length = 1) : (decide ((49 : Int) ≤ ((List.getD w 0 0).toNat : Int)) && decide (((List.getD w 0 0).toNat : Int) ≤ 52)) = fit28 68 w := by
  obtain ⟨c, rfl⟩ : ∃ c, w = [c] := by
    cases w with
    | nil => simp at h
    | cons c r => cases r with
      | nil => exact ⟨c, rfl⟩
      | cons d r => simp at h
  have hx : ∀ x : Fin 256, (decide ((49 : Int) ≤ (((UInt8.ofNat x.val)).toNat : Int)) && decide (((UInt8.ofNat x.val).toNat : Int) ≤ 52)) = (decide (UInt8.ofNat x.val = 49) || decide (UInt8.ofNat x.val = 50) || decide (UInt8.ofNat x.val = 51) || decide (UInt8.ofNat x.val = 52)) := by decide +kernel
  have := hx ⟨c.toNat, c.toNat_lt⟩
  simp only [UInt8.ofNat_toNat] at this
  show (decide ((49 : Int) ≤ (c.toNat : Int)) && decide ((c.toNat : Int) ≤ 52)) = (decide ([c] = [49]) || decide ([c] = [50]) || decide ([c] = [51]) || decide ([c] = [52]))
  simpa using this
theorem digit_no {w : Str} (h : ¬ w.length = 1) : fit28 68 w = false := by
  show (decide (w = [49]) || decide (w = [50]) || decide (w = [51]) || decide (w = [52])) = false
  rw [decide_eq_false (fun e => h (by rw [e]; rfl)), decide_eq_false (fun e => h (by rw [e]; rfl)), decide_eq_false (fun e => h (by rw [e]; rfl)), decide_eq_false (fun e => h (by rw [e]; rfl))]; rfl
theorem pf1_ct (c : UInt8) : Ct Tryz.prog 76 [.int .u8 (c.toNat : Int)] [] [] (fun v o r => v = .bool (seedB c) ∧ o = [] ∧ r = []) := by
 refine ct_enter Tryz.func76 rfl Tryz.ntmps76 (by kernel_rfl) rfl fun w0 => ?_
 refine csr <| agb rfl <| jsr <| mvi rfl <| cmp _ rfl rfl rfl <| mvb rfl <| jsplit 5 rfl (fun h1 => ?_) (fun h1 => ?_)
 ·replace h1 := of_decide_eq_true h1
  refine g_on rfl rfl rfl <| mvi rfl <| g_on rfl rfl rfl <| cmp _ rfl rfl rfl <| pkt (.bool _) rfl rfl <| mvb rfl <| jsplit 9 rfl (fun h2 => ?_) (fun h2 => ?_)
  ·replace h2 := of_decide_eq_true h2
   refine g_off rfl rfl rfl rfl <| g_off rfl rfl rfl rfl <| g_off rfl rfl rfl rfl <| g_und rfl rfl rfl <| g_und rfl rfl rfl <| g_off rfl rfl rfl rfl <| pkt (.bool _) rfl rfl <| mvb rfl <| g_off rfl rfl rfl rfl <| g_off rfl rfl rfl rfl <| pkt (.bool _) rfl rfl <| agb rfl <| jt <| c_ret ?_
   exact j_z (own0 := []) (ro0 := []) (.inl rfl) rfl (hr1 Tryz.results76 (rvt (v := (.bool _)) rfl)) rfl (⟨congrArg Value.bool (by show true = _; simp only [lowB, digB, hxB, seedB]; rw [Bool.eq_iff_iff]; simp only [Bool.or_eq_true, Bool.and_eq_true, decide_eq_true_eq]; first | omega | (simp; done) | (simp; omega) | simp_all), rfl, rfl⟩)
  ·replace h2 := of_decide_eq_false h2
   refine g_on rfl rfl rfl <| mvi rfl <| g_on rfl rfl rfl <| cmp _ rfl rfl rfl <| g_on rfl rfl rfl <| mvb rfl <| jsplit 12 rfl (fun h3 => ?_) (fun h3 => ?_)
   ·replace h3 := of_decide_eq_true h3
    refine g_on rfl rfl rfl <| mvi rfl <| g_on rfl rfl rfl <| cmp _ rfl rfl rfl <| g_on rfl rfl rfl <| pkt (.bool _) rfl rfl <| pkf (.bool _) rfl rfl <| mvb rfl <| jsplit 17 rfl (fun h4 => ?_) (fun h4 => ?_)
    ·replace h4 := of_decide_eq_true h4
     refine g_off rfl rfl rfl rfl <| g_off rfl rfl rfl rfl <| pkt (.bool _) rfl rfl <| agb rfl <| jt <| c_ret ?_
     exact j_z (own0 := []) (ro0 := []) (.inl rfl) rfl (hr1 Tryz.results76 (rvt (v := (.bool _)) rfl)) rfl (⟨congrArg Value.bool (by show true = _; simp only [lowB, digB, hxB, seedB]; rw [Bool.eq_iff_iff]; simp only [Bool.or_eq_true, Bool.and_eq_true, decide_eq_true_eq]; first | omega | (simp; done) | (simp; omega) | simp_all), rfl, rfl⟩)
    ·replace h4 := of_decide_eq_false h4
     refine g_on rfl rfl rfl <| mvi rfl <| g_on rfl rfl rfl <| equ8 (a := c) (b := (45 : UInt8)) _ rfl rfl rfl <| pkf (.bool _) rfl rfl <| agb rfl <| jt <| c_ret ?_
     exact j_z (own0 := []) (ro0 := []) (.inl rfl) rfl (hr1 Tryz.results76 (rvt (v := (.bool _)) rfl)) rfl (⟨congrArg Value.bool (by show (decide (c = (45 : UInt8))) = _; simp only [lowB, digB, hxB, seedB]; rw [Bool.eq_iff_iff]; simp only [Bool.or_eq_true, Bool.and_eq_true, decide_eq_true_eq]; first | omega | (simp; done) | (simp; omega) | simp_all), rfl, rfl⟩)
   ·replace h3 := of_decide_eq_false h3
    refine g_off rfl rfl rfl rfl <| g_off rfl rfl rfl rfl <| g_on rfl rfl rfl <| pkf (.bool _) rfl rfl <| pkf (.bool _) rfl rfl <| mvb rfl <| g_on rfl rfl rfl <| mvi rfl <| g_on rfl rfl rfl <| equ8 (a := c) (b := (45 : UInt8)) _ rfl rfl rfl <| pkf (.bool _) rfl rfl <| agb rfl <| jt <| c_ret ?_
    exact j_z (own0 := []) (ro0 := []) (.inl rfl) rfl (hr1 Tryz.results76 (rvt (v := (.bool _)) rfl)) rfl (⟨congrArg Value.bool (by show (decide (c = (45 : UInt8))) = _; simp only [lowB, digB, hxB, seedB]; rw [Bool.eq_iff_iff]; simp only [Bool.or_eq_true, Bool.and_eq_true, decide_eq_true_eq]; first | omega | (simp; done) | (simp; omega) | simp_all), rfl, rfl⟩)
 ·replace h1 := of_decide_eq_false h1
  refine g_off rfl rfl rfl rfl <| g_off rfl rfl rfl rfl <| pkf (.bool _) rfl rfl <| mvb rfl <| g_on rfl rfl rfl <| mvi rfl <| g_on rfl rfl rfl <| cmp _ rfl rfl rfl <| g_on rfl rfl rfl <| mvb rfl <| jsplit 12 rfl (fun h5 => ?_) (fun h5 => ?_)
  ·replace h5 := of_decide_eq_true h5
   refine g_on rfl rfl rfl <| mvi rfl <| g_on rfl rfl rfl <| cmp _ rfl rfl rfl <| g_on rfl rfl rfl <| pkt (.bool _) rfl rfl <| pkf (.bool _) rfl rfl <| mvb rfl <| jsplit 17 rfl (fun h6 => ?_) (fun h6 => ?_)
   ·replace h6 := of_decide_eq_true h6
    refine g_off rfl rfl rfl rfl <| g_off rfl rfl rfl rfl <| pkt (.bool _) rfl rfl <| agb rfl <| jt <| c_ret ?_
    exact j_z (own0 := []) (ro0 := []) (.inl rfl) rfl (hr1 Tryz.results76 (rvt (v := (.bool _)) rfl)) rfl (⟨congrArg Value.bool (by show true = _; simp only [lowB, digB, hxB, seedB]; rw [Bool.eq_iff_iff]; simp only [Bool.or_eq_true, Bool.and_eq_true, decide_eq_true_eq]; first | omega | (simp; done) | (simp; omega) | simp_all), rfl, rfl⟩)
   ·replace h6 := of_decide_eq_false h6
    refine g_on rfl rfl rfl <| mvi rfl <| g_on rfl rfl rfl <| equ8 (a := c) (b := (45 : UInt8)) _ rfl rfl rfl <| pkf (.bool _) rfl rfl <| agb rfl <| jt <| c_ret ?_
    exact j_z (own0 := []) (ro0 := []) (.inl rfl) rfl (hr1 Tryz.results76 (rvt (v := (.bool _)) rfl)) rfl (⟨congrArg Value.bool (by show (decide (c = (45 : UInt8))) = _; simp only [lowB, digB, hxB, seedB]; rw [Bool.eq_iff_iff]; simp only [Bool.or_eq_true, Bool.and_eq_true, decide_eq_true_eq]; first | omega | (simp; done) | (simp; omega) | simp_all), rfl, rfl⟩)
  ·replace h5 := of_decide_eq_false h5
   refine g_off rfl rfl rfl rfl <| g_off rfl rfl rfl rfl <| g_on rfl rfl rfl <| pkf (.bool _) rfl rfl <| pkf (.bool _) rfl rfl <| mvb rfl <| g_on rfl rfl rfl <| mvi rfl <| g_on rfl rfl rfl <| equ8 (a := c) (b := (45 : UInt8)) _ rfl rfl rfl <| pkf (.bool _) rfl rfl <| agb rfl <| jt <| c_ret ?_
   exact j_z (own0 := []) (ro0 := []) (.inl rfl) rfl (hr1 Tryz.results76 (rvt (v := (.bool _)) rfl)) rfl (⟨congrArg Value.bool (by show (decide (c = (45 : UInt8))) = _; simp only [lowB, digB, hxB, seedB]; rw [Bool.eq_iff_iff]; simp only [Bool.or_eq_true, Bool.and_eq_true, decide_eq_true_eq]; first | omega | (simp; done) | (simp; omega) | simp_all), rfl, rfl⟩)
theorem pn1_ct (c : UInt8) : Ct Tryz.prog 110 [.int .u8 (c.toNat : Int)] [] [] (fun v o r => v = .bool (digB c) ∧ o = [] ∧ r = []) := by
 refine ct_enter Tryz.func110 rfl Tryz.ntmps110 (by kernel_rfl) rfl fun w0 => ?_
 refine csr <| agb rfl <| jsr <| mvi rfl <| cmp _ rfl rfl rfl <| mvb rfl <| jsplit 5 rfl (fun h1 => ?_) (fun h1 => ?_)
 ·replace h1 := of_decide_eq_true h1
  refine g_on rfl rfl rfl <| mvi rfl <| g_on rfl rfl rfl <| cmp _ rfl rfl rfl <| pkt (.bool _) rfl rfl <| agb rfl <| jt <| c_ret ?_
  exact j_z (own0 := []) (ro0 := []) (.inl rfl) rfl (hr1 Tryz.results110 (rvt (v := (.bool _)) rfl)) rfl (⟨congrArg Value.bool (by show (decide ((c.toNat : Int) ≤ 57)) = _; simp only [lowB, digB, hxB, seedB]; rw [Bool.eq_iff_iff]; simp only [Bool.or_eq_true, Bool.and_eq_true, decide_eq_true_eq]; first | omega | (simp; done) | (simp; omega) | simp_all), rfl, rfl⟩)
 ·replace h1 := of_decide_eq_false h1
  refine g_off rfl rfl rfl rfl <| g_off rfl rfl rfl rfl <| pkf (.bool _) rfl rfl <| agb rfl <| jt <| c_ret ?_
  exact j_z (own0 := []) (ro0 := []) (.inl rfl) rfl (hr1 Tryz.results110 (rvt (v := (.bool _)) rfl)) rfl (⟨congrArg Value.bool (by show false = _; simp only [lowB, digB, hxB, seedB]; rw [Bool.eq_iff_iff]; simp only [Bool.or_eq_true, Bool.and_eq_true, decide_eq_true_eq]; first | omega | (simp; done) | (simp; omega) | simp_all), rfl, rfl⟩)
theorem pg1_ct (c : UInt8) : Ct Tryz.prog 112 [.int .u8 (c.toNat : Int)] [] [] (fun v o r => v = .bool (lowB c) ∧ o = [] ∧ r = []) := by
 refine ct_enter Tryz.func112 rfl Tryz.ntmps112 (by kernel_rfl) rfl fun w0 => ?_
 refine csr <| agb rfl <| jsr <| mvi rfl <| cmp _ rfl rfl rfl <| mvb rfl <| jsplit 5 rfl (fun h1 => ?_) (fun h1 => ?_)
 ·replace h1 := of_decide_eq_true h1
  refine g_on rfl rfl rfl <| mvi rfl <| g_on rfl rfl rfl <| cmp _ rfl rfl rfl <| pkt (.bool _) rfl rfl <| agb rfl <| jt <| c_ret ?_
  exact j_z (own0 := []) (ro0 := []) (.inl rfl) rfl (hr1 Tryz.results112 (rvt (v := (.bool _)) rfl)) rfl (⟨congrArg Value.bool (by show (decide ((c.toNat : Int) ≤ 122)) = _; simp only [lowB, digB, hxB, seedB]; rw [Bool.eq_iff_iff]; simp only [Bool.or_eq_true, Bool.and_eq_true, decide_eq_true_eq]; first | omega | (simp; done) | (simp; omega) | simp_all), rfl, rfl⟩)
 ·replace h1 := of_decide_eq_false h1
  refine g_off rfl rfl rfl rfl <| g_off rfl rfl rfl rfl <| pkf (.bool _) rfl rfl <| agb rfl <| jt <| c_ret ?_
  exact j_z (own0 := []) (ro0 := []) (.inl rfl) rfl (hr1 Tryz.results112 (rvt (v := (.bool _)) rfl)) rfl (⟨congrArg Value.bool (by show false = _; simp only [lowB, digB, hxB, seedB]; rw [Bool.eq_iff_iff]; simp only [Bool.or_eq_true, Bool.and_eq_true, decide_eq_true_eq]; first | omega | (simp; done) | (simp; omega) | simp_all), rfl, rfl⟩)
theorem pall_ct (w : Str) (F : Nat) (p : UInt8 → Bool) (hp : ∀ c : UInt8, Ct Tryz.prog F [.int .u8 (c.toNat : Int)] [] [] (fun v o r => v = .bool (p c) ∧ o = [] ∧ r = [])) (h0 : 0 < w.length) (hw : w.length ≤ 140737488351232) : Ct Tryz.prog 75 [strV w, .func (.func F) #[] #[]] [] [] (fun v o r => v = .bool (w.all p) ∧ o = [] ∧ r = []) := by
 refine ct_enter Tryz.func75 rfl Tryz.ntmps75 (by kernel_rfl) rfl fun w0 => ?_
 refine csr <| agb rfl <| jt <| c_seq <| csr <| mvs rfl <| lenT (s := w) rfl uy9 <| mvi rfl <| jt <| c_block <| c_loop (σ := Nat) (fun i => i ≤ w.length ∧ ∀ j, j < i → p (List.getD w j 0) = true) (fun i => w.length - i) (fun i => [(8, .int .i64 (i : Int))]) (fun i => []) (fun i => []) [4, 5, 8, 9, 10, 11, 12, 13, 14, 15, 16, 17] 0 (⟨by omega, fun j hj => by omega⟩) ⟨rfl, trivial⟩ rfl rfl ?_
 rintro i g1 hI1
 try dsimp only at hI1 ⊢
 refine csr <| cmp _ rfl rfl rfl <| jt <| c_seq <| c_cond rfl (fun h1 => ?_) (fun h1 => ?_)
 ·replace h1 := of_decide_eq_true h1
  refine c_skip <| e_then <| c_seq <| c_block <| csr <| mvi rfl <| agi rfl <| jsr <| mv (.func _ _ _) rfl <| mvs rfl <| mvi rfl <| idxT (s := w) i rfl rfl uy9 rfl (by first | omega | (simp; done) | (simp; omega) | (simp at *; omega)) <| calv (hp (List.getD w i 0)) rfl [] [] [] rfl rfl rfl (by kernel_rfl) impl_nil rfl ?_; rintro _ _ _ ⟨rfl, rfl, rfl⟩; refine ⟨trivial, ?_⟩
  refine not_ rfl <| jt <| c_cond rfl (fun h2 => ?_) (fun h2 => ?_)
  ·refine csr <| agb rfl <| jt <| c_ret ?_
   exact j_z (own0 := []) (ro0 := []) (.inl rfl) rfl (hr1 Tryz.results75 (rvt (v := (.bool _)) rfl)) rfl (⟨congrArg Value.bool (by rw [all_no (i := i) (by omega) (notT (by assumption))]), rfl, rfl⟩)
  ·refine c_skip <| e_in <| e_then <| c_reg <| addi rfl rfl rfl (by omega) <| mvi rfl <| jn ?_
   exact e_loop (i + 1) (⟨by omega, fun j hj => by rcases Nat.lt_or_ge j i with h | h; exact hI1.2 j h; rw [show j = i by omega]; exact notF (by assumption)⟩) (by (try dsimp only); omega) (⟨rfl, trivial⟩) rfl rfl rfl
 ·replace h1 := of_decide_eq_false h1
  refine c_exit rfl <| e_then <| csr <| mvs rfl <| lenT (s := w) rfl uy9 <| cmp _ rfl rfl rfl <| agb rfl <| jt <| c_ret ?_
  exact j_z (own0 := []) (ro0 := []) (.inl rfl) rfl (hr1 Tryz.results75 (rvt (v := (.bool _)) rfl)) rfl (⟨congrArg Value.bool (by rw [all_yes (p := p) (w := w) (fun j hj => hI1.2 j (by omega))]; exact decide_eq_true (by omega)), rfl, rfl⟩)
theorem pisNumber_ct (w : Str) (h0 : 0 < w.length) (hw : w.length ≤ 140737488351232) : Ct Tryz.prog 72 [strV w] [] [] (fun v o r => v = .bool (isNum w) ∧ o = [] ∧ r = []) := by
 refine ct_enter Tryz.func72 rfl Tryz.ntmps72 (by kernel_rfl) rfl fun w0 => ?_
 refine csr <| agb rfl <| jsr <| mvs rfl <| lenT (s := w) rfl uy9 <| cmp _ rfl rfl rfl <| mvb rfl <| jsplit 6 rfl (fun h1 => ?_) (fun h1 => ?_)
 ·replace h1 := of_decide_eq_true h1
  refine g_on rfl rfl rfl <| mvs rfl <| g_on rfl rfl rfl <| cal (pall_ct w 110 digB pn1_ct (by omega) (by omega)) [] [] [] rfl rfl rfl (by kernel_rfl) impl_nil rfl ?_; rintro _ _ _ ⟨rfl, rfl, rfl⟩; refine ⟨trivial, ?_⟩
  refine pkt (.bool _) rfl rfl <| mvb rfl <| jsplit 10 rfl (fun h2 => ?_) (fun h2 => ?_)
  ·refine g_on rfl rfl rfl <| mvs rfl <| g_on rfl rfl rfl <| idxT (s := w) 0 rfl rfl uy9 rfl (by first | omega | (simp; done) | (simp; omega) | (simp at *; omega)) <| g_on rfl rfl rfl <| equ8 (a := (List.getD w 0 0)) (b := (48 : UInt8)) _ rfl rfl rfl <| g_on rfl rfl rfl <| mvb rfl <| jsplit 14 rfl (fun h3 => ?_) (fun h3 => ?_)
   ·replace h3 := ndt h3
    refine g_off rfl rfl rfl rfl <| g_off rfl rfl rfl rfl <| g_on rfl rfl rfl <| pkt (.bool _) rfl rfl <| pkt (.bool _) rfl rfl <| agb rfl <| jt <| c_ret ?_
    exact j_z (own0 := []) (ro0 := []) (.inl rfl) rfl (hr1 Tryz.results72 (rvt (v := (.bool _)) rfl)) rfl (⟨congrArg Value.bool (by unfold isNum; by_cases hd : w.all digB = true <;> by_cases h9 : (w.length : Int) ≤ 9 <;> by_cases hz : List.getD w 0 0 = 48 <;> by_cases h1 : w = [48] <;> simp_all), rfl, rfl⟩)
   ·replace h3 := ndf h3
    refine g_on rfl rfl rfl <| mvs rfl <| g_on rfl rfl rfl <| scmp (a := w) (b := ([48] : Str)) _ rfl rfl uy9 rfl <| g_on rfl rfl rfl <| pkf (.bool _) rfl rfl <| pkt (.bool _) rfl rfl <| agb rfl <| jt <| c_ret ?_
    exact j_z (own0 := []) (ro0 := []) (.inl rfl) rfl (hr1 Tryz.results72 (rvt (v := (.bool _)) rfl)) rfl (⟨congrArg Value.bool (by unfold isNum; by_cases hd : w.all digB = true <;> by_cases h9 : (w.length : Int) ≤ 9 <;> by_cases hz : List.getD w 0 0 = 48 <;> by_cases h1 : w = [48] <;> simp_all), rfl, rfl⟩)
  ·refine g_off rfl rfl rfl rfl <| g_off rfl rfl rfl rfl <| g_off rfl rfl rfl rfl <| g_off rfl rfl rfl rfl <| g_und rfl rfl rfl <| g_und rfl rfl rfl <| g_off rfl rfl rfl rfl <| pkf (.bool _) rfl rfl <| agb rfl <| jt <| c_ret ?_
   exact j_z (own0 := []) (ro0 := []) (.inl rfl) rfl (hr1 Tryz.results72 (rvt (v := (.bool _)) rfl)) rfl (⟨congrArg Value.bool (by unfold isNum; by_cases hd : w.all digB = true <;> by_cases h9 : (w.length : Int) ≤ 9 <;> by_cases hz : List.getD w 0 0 = 48 <;> by_cases h1 : w = [48] <;> simp_all), rfl, rfl⟩)
 ·replace h1 := of_decide_eq_false h1
  refine g_off rfl rfl rfl rfl <| g_off rfl rfl rfl rfl <| pkf (.bool _) rfl rfl <| mvb rfl <| g_off rfl rfl rfl rfl <| g_off rfl rfl rfl rfl <| g_off rfl rfl rfl rfl <| g_off rfl rfl rfl rfl <| g_und rfl rfl rfl <| g_und rfl rfl rfl <| g_off rfl rfl rfl rfl <| pkf (.bool _) rfl rfl <| agb rfl <| jt <| c_ret ?_
  exact j_z (own0 := []) (ro0 := []) (.inl rfl) rfl (hr1 Tryz.results72 (rvt (v := (.bool _)) rfl)) rfl (⟨congrArg Value.bool (by unfold isNum; by_cases hd : w.all digB = true <;> by_cases h9 : (w.length : Int) ≤ 9 <;> by_cases hz : List.getD w 0 0 = 48 <;> by_cases h1 : w = [48] <;> simp_all), rfl, rfl⟩)
theorem pnumber_ct (w : Str) (hn : isNum w = true) (h0 : 0 < w.length) : Ct Tryz.prog 73 [strV w] [] [] (fun v o r => v = .int .i64 (valN 10 w : Int) ∧ o = [] ∧ r = []) := by
 refine ct_enter Tryz.func73 rfl Tryz.ntmps73 (by kernel_rfl) rfl fun w0 => ?_
 refine csr <| agi rfl <| jsr <| mvs rfl <| cal (sAtoi_ct w hn h0) [] [] [] rfl rfl rfl (by kernel_rfl) impl_nil rfl ?_; rintro _ _ _ ⟨rfl, rfl, rfl⟩; refine ⟨trivial, ?_⟩
 refine mv (.tuple _) rfl <| xtr (.int _ _) rfl rfl <| xtr .nilIface rfl rfl <| agi rfl <| asg .nilIface rfl <| jsr <| mvi rfl <| agi rfl <| jt <| c_ret ?_
 exact j_z (own0 := []) (ro0 := []) (.inl rfl) rfl (hr1 Tryz.results73 (rvt (v := (.int _ _)) rfl)) rfl (⟨rfl, rfl, rfl⟩)
theorem pisGroup_ct (w : Str) (h0 : 0 < w.length) (hw : w.length ≤ 140737488351232) : Ct Tryz.prog 74 [strV w] [] [] (fun v o r => v = .bool (fit28 103 w) ∧ o = [] ∧ r = []) := by
 refine ct_enter Tryz.func74 rfl Tryz.ntmps74 (by kernel_rfl) rfl fun w0 => ?_
 refine csr <| agb rfl <| jsr <| mvs rfl <| lenT (s := w) rfl uy9 <| cmp _ rfl rfl rfl <| mvb rfl <| jsplit 6 rfl (fun h1 => ?_) (fun h1 => ?_)
 ·replace h1 := of_decide_eq_true h1
  refine g_on rfl rfl rfl <| mvs rfl <| g_on rfl rfl rfl <| cal (pall_ct w 112 lowB pg1_ct (by omega) (by omega)) [] [] [] rfl rfl rfl (by kernel_rfl) impl_nil rfl ?_; rintro _ _ _ ⟨rfl, rfl, rfl⟩; refine ⟨trivial, ?_⟩
  refine pkt (.bool _) rfl rfl <| agb rfl <| jt <| c_ret ?_
  exact j_z (own0 := []) (ro0 := []) (.inl rfl) rfl (hr1 Tryz.results74 (rvt (v := (.bool _)) rfl)) rfl (⟨congrArg Value.bool (by show _ = (w.all lowB && decide ((w.length : Int) ≤ 16)); by_cases hd : w.all lowB = true <;> by_cases h9 : (w.length : Int) ≤ 16 <;> simp_all), rfl, rfl⟩)
 ·replace h1 := of_decide_eq_false h1
  refine g_off rfl rfl rfl rfl <| g_off rfl rfl rfl rfl <| pkf (.bool _) rfl rfl <| agb rfl <| jt <| c_ret ?_
  exact j_z (own0 := []) (ro0 := []) (.inl rfl) rfl (hr1 Tryz.results74 (rvt (v := (.bool _)) rfl)) rfl (⟨congrArg Value.bool (by show _ = (w.all lowB && decide ((w.length : Int) ≤ 16)); by_cases hd : w.all lowB = true <;> by_cases h9 : (w.length : Int) ≤ 16 <;> simp_all), rfl, rfl⟩)
theorem pfits_version (w : Str) (h0 : 0 < w.length) (hw : w.length ≤ 140737488351232) : Ct Tryz.prog 43 [strV ([118, 101, 114, 115, 105, 111, 110] : Str), strV w] [] [] (fun v o r => v = .bool (fit28 118 w) ∧ o = [] ∧ r = []) := by
 refine ct_enter Tryz.func43 rfl Tryz.ntmps43 (by kernel_rfl) rfl fun w0 => ?_
 refine csr <| agb rfl <| jt <| c_seq <| csr <| mvs rfl <| jt <| c_block <| csr <| scmp (a := ([118, 101, 114, 115, 105, 111, 110] : Str)) (b := ([118, 101, 114, 115, 105, 111, 110] : Str)) true rfl rfl uy9 (by decide) <| agb rfl <| jt <| c_true rfl <| csr <| mvs rfl <| scmp (a := w) (b := ([49] : Str)) _ rfl rfl uy9 rfl <| mvb rfl <| jsplit 10 rfl (fun h1 => ?_) (fun h1 => ?_)
 ·replace h1 := of_decide_eq_true h1
  refine g_off rfl rfl rfl rfl <| g_off rfl rfl rfl rfl <| pkt (.bool _) rfl rfl <| agb rfl <| jt <| c_ret ?_
  exact j_z (own0 := []) (ro0 := []) (.inl rfl) rfl (hr1 Tryz.results43 (rvt (v := (.bool _)) rfl)) rfl (⟨congrArg Value.bool (by simp only [fit28]; first | (simp_all; done) | (simp_all; intros; omega)), rfl, rfl⟩)
 ·replace h1 := of_decide_eq_false h1
  refine g_on rfl rfl rfl <| mvs rfl <| g_on rfl rfl rfl <| scmp (a := w) (b := ([50] : Str)) _ rfl rfl uy9 rfl <| pkf (.bool _) rfl rfl <| agb rfl <| jt <| c_ret ?_
  exact j_z (own0 := []) (ro0 := []) (.inl rfl) rfl (hr1 Tryz.results43 (rvt (v := (.bool _)) rfl)) rfl (⟨congrArg Value.bool (by simp only [fit28]; first | (simp_all; done) | (simp_all; intros; omega)), rfl, rfl⟩)
theorem pfits_skip (w : Str) (h0 : 0 < w.length) (hw : w.length ≤ 140737488351232) : Ct Tryz.prog 43 [strV ([115, 107, 105, 112] : Str), strV w] [] [] (fun v o r => v = .bool (fit28 107 w) ∧ o = [] ∧ r = []) := by
 refine ct_enter Tryz.func43 rfl Tryz.ntmps43 (by kernel_rfl) rfl fun w0 => ?_
 refine csr <| agb rfl <| jt <| c_seq <| csr <| mvs rfl <| jt <| c_block <| csr <| scmp (a := ([115, 107, 105, 112] : Str)) (b := ([118, 101, 114, 115, 105, 111, 110] : Str)) false rfl rfl uy9 (by decide) <| agb rfl <| jt <| c_false rfl <| csr <| scmp (a := ([115, 107, 105, 112] : Str)) (b := ([115, 107, 105, 112] : Str)) true rfl rfl uy9 (by decide) <| agb rfl <| jt <| c_true rfl <| csr <| mvs rfl <| cal (pisNumber_ct w (by omega) (by omega)) [] [] [] rfl rfl rfl (by kernel_rfl) impl_nil rfl ?_; rintro _ _ _ ⟨rfl, rfl, rfl⟩; refine ⟨trivial, ?_⟩
 refine mvb rfl <| jsplit 18 rfl (fun h1 => ?_) (fun h1 => ?_)
 ·refine g_on rfl rfl rfl <| mvs rfl <| g_on rfl rfl rfl <| cal (pnumber_ct w (by assumption) h0) [] [] [] rfl rfl rfl (by kernel_rfl) impl_nil rfl ?_; rintro _ _ _ ⟨rfl, rfl, rfl⟩; refine ⟨trivial, ?_⟩
  refine g_on rfl rfl rfl <| cmp _ rfl rfl rfl <| pkt (.bool _) rfl rfl <| agb rfl <| jt <| c_ret ?_
  exact j_z (own0 := []) (ro0 := []) (.inl rfl) rfl (hr1 Tryz.results43 (rvt (v := (.bool _)) rfl)) rfl (⟨congrArg Value.bool (by simp only [fit28]; first | (simp_all; done) | (simp_all; intros; omega)), rfl, rfl⟩)
 ·refine g_off rfl rfl rfl rfl <| g_off rfl rfl rfl rfl <| g_off rfl rfl rfl rfl <| pkf (.bool _) rfl rfl <| agb rfl <| jt <| c_ret ?_
  exact j_z (own0 := []) (ro0 := []) (.inl rfl) rfl (hr1 Tryz.results43 (rvt (v := (.bool _)) rfl)) rfl (⟨congrArg Value.bool (by simp only [fit28]; first | (simp_all; done) | (simp_all; intros; omega)), rfl, rfl⟩)
theorem pfits_store (w : Str) (h0 : 0 < w.length) (hw : w.length ≤ 140737488351232) : Ct Tryz.prog 43 [strV ([115, 116, 111, 114, 101] : Str), strV w] [] [] (fun v o r => v = .bool (fit28 116 w) ∧ o = [] ∧ r = []) := by
 refine ct_enter Tryz.func43 rfl Tryz.ntmps43 (by kernel_rfl) rfl fun w0 => ?_
 refine csr <| agb rfl <| jt <| c_seq <| csr <| mvs rfl <| jt <| c_block <| csr <| scmp (a := ([115, 116, 111, 114, 101] : Str)) (b := ([118, 101, 114, 115, 105, 111, 110] : Str)) false rfl rfl uy9 (by decide) <| agb rfl <| jt <| c_false rfl <| csr <| scmp (a := ([115, 116, 111, 114, 101] : Str)) (b := ([115, 107, 105, 112] : Str)) false rfl rfl uy9 (by decide) <| agb rfl <| jt <| c_false rfl <| csr <| scmp (a := ([115, 116, 111, 114, 101] : Str)) (b := ([115, 116, 111, 114, 101] : Str)) true rfl rfl uy9 (by decide) <| agb rfl <| jt <| c_true rfl <| csr <| mvs rfl <| cal (pisNumber_ct w (by omega) (by omega)) [] [] [] rfl rfl rfl (by kernel_rfl) impl_nil rfl ?_; rintro _ _ _ ⟨rfl, rfl, rfl⟩; refine ⟨trivial, ?_⟩
 refine mvb rfl <| jsplit 27 rfl (fun h1 => ?_) (fun h1 => ?_)
 ·refine g_on rfl rfl rfl <| mvs rfl <| g_on rfl rfl rfl <| cal (pnumber_ct w (by assumption) h0) [] [] [] rfl rfl rfl (by kernel_rfl) impl_nil rfl ?_; rintro _ _ _ ⟨rfl, rfl, rfl⟩; refine ⟨trivial, ?_⟩
  refine g_on rfl rfl rfl <| cmp _ rfl rfl rfl <| pkt (.bool _) rfl rfl <| agb rfl <| jt <| c_ret ?_
  exact j_z (own0 := []) (ro0 := []) (.inl rfl) rfl (hr1 Tryz.results43 (rvt (v := (.bool _)) rfl)) rfl (⟨congrArg Value.bool (by simp only [fit28]; first | (simp_all; done) | (simp_all; intros; omega)), rfl, rfl⟩)
 ·refine g_off rfl rfl rfl rfl <| g_off rfl rfl rfl rfl <| g_off rfl rfl rfl rfl <| pkf (.bool _) rfl rfl <| agb rfl <| jt <| c_ret ?_
  exact j_z (own0 := []) (ro0 := []) (.inl rfl) rfl (hr1 Tryz.results43 (rvt (v := (.bool _)) rfl)) rfl (⟨congrArg Value.bool (by simp only [fit28]; first | (simp_all; done) | (simp_all; intros; omega)), rfl, rfl⟩)
theorem pfits_name (w : Str) (h0 : 0 < w.length) (hw : w.length ≤ 140737488351232) : Ct Tryz.prog 43 [strV ([110, 97, 109, 101] : Str), strV w] [] [] (fun v o r => v = .bool (fit28 112 w) ∧ o = [] ∧ r = []) := by
 refine ct_enter Tryz.func43 rfl Tryz.ntmps43 (by kernel_rfl) rfl fun w0 => ?_
 refine csr <| agb rfl <| jt <| c_seq <| csr <| mvs rfl <| jt <| c_block <| csr <| scmp (a := ([110, 97, 109, 101] : Str)) (b := ([118, 101, 114, 115, 105, 111, 110] : Str)) false rfl rfl uy9 (by decide) <| agb rfl <| jt <| c_false rfl <| csr <| scmp (a := ([110, 97, 109, 101] : Str)) (b := ([115, 107, 105, 112] : Str)) false rfl rfl uy9 (by decide) <| agb rfl <| jt <| c_false rfl <| csr <| scmp (a := ([110, 97, 109, 101] : Str)) (b := ([115, 116, 111, 114, 101] : Str)) false rfl rfl uy9 (by decide) <| agb rfl <| jt <| c_false rfl <| csr <| scmp (a := ([110, 97, 109, 101] : Str)) (b := ([110, 117, 109, 98, 101, 114] : Str)) false rfl rfl uy9 (by decide) <| agb rfl <| jt <| c_false rfl <| csr <| scmp (a := ([110, 97, 109, 101] : Str)) (b := ([100, 105, 103, 105, 116] : Str)) false rfl rfl uy9 (by decide) <| agb rfl <| jt <| c_false rfl ?_
 refine csr <| scmp (a := ([110, 97, 109, 101] : Str)) (b := ([110, 97, 109, 101] : Str)) true rfl rfl uy9 (by decide) <| agb rfl <| jt <| c_true rfl <| csr <| mvs rfl <| cal (pisGroup_ct w (by omega) (by omega)) [] [] [] rfl rfl rfl (by kernel_rfl) impl_nil rfl ?_; rintro _ _ _ ⟨rfl, rfl, rfl⟩; refine ⟨trivial, ?_⟩
 refine mvb rfl <| jsplit 55 rfl (fun h1 => ?_) (fun h1 => ?_)
 ·refine g_on rfl rfl rfl <| mvs rfl <| g_on rfl rfl rfl <| lenT (s := w) rfl uy9 <| g_on rfl rfl rfl <| cmp _ rfl rfl rfl <| pkt (.bool _) rfl rfl <| agb rfl <| jt <| c_ret ?_
  exact j_z (own0 := []) (ro0 := []) (.inl rfl) rfl (hr1 Tryz.results43 (rvt (v := (.bool _)) rfl)) rfl (⟨congrArg Value.bool (by show _ = (w.all lowB && decide ((w.length : Int) ≤ 15)); have HG : fit28 103 w = (w.all lowB && decide ((w.length : Int) ≤ 16)) := rfl; by_cases hd : w.all lowB = true <;> by_cases h9 : (w.length : Int) ≤ 15 <;> by_cases h8 : (w.length : Int) ≤ 16 <;> first | omega | simp_all), rfl, rfl⟩)
 ·refine g_off rfl rfl rfl rfl <| g_off rfl rfl rfl rfl <| g_off rfl rfl rfl rfl <| pkf (.bool _) rfl rfl <| agb rfl <| jt <| c_ret ?_
  exact j_z (own0 := []) (ro0 := []) (.inl rfl) rfl (hr1 Tryz.results43 (rvt (v := (.bool _)) rfl)) rfl (⟨congrArg Value.bool (by show _ = (w.all lowB && decide ((w.length : Int) ≤ 15)); have HG : fit28 103 w = (w.all lowB && decide ((w.length : Int) ≤ 16)) := rfl; by_cases hd : w.all lowB = true <;> by_cases h9 : (w.length : Int) ≤ 15 <;> by_cases h8 : (w.length : Int) ≤ 16 <;> first | omega | simp_all), rfl, rfl⟩)
theorem pfits_group (w : Str) (h0 : 0 < w.length) (hw : w.length ≤ 140737488351232) : Ct Tryz.prog 43 [strV ([103, 114, 111, 117, 112] : Str), strV w] [] [] (fun v o r => v = .bool (fit28 103 w) ∧ o = [] ∧ r = []) := by
 refine ct_enter Tryz.func43 rfl Tryz.ntmps43 (by kernel_rfl) rfl fun w0 => ?_
 refine csr <| agb rfl <| jt <| c_seq <| csr <| mvs rfl <| jt <| c_block <| csr <| scmp (a := ([103, 114, 111, 117, 112] : Str)) (b := ([118, 101, 114, 115, 105, 111, 110] : Str)) false rfl rfl uy9 (by decide) <| agb rfl <| jt <| c_false rfl <| csr <| scmp (a := ([103, 114, 111, 117, 112] : Str)) (b := ([115, 107, 105, 112] : Str)) false rfl rfl uy9 (by decide) <| agb rfl <| jt <| c_false rfl <| csr <| scmp (a := ([103, 114, 111, 117, 112] : Str)) (b := ([115, 116, 111, 114, 101] : Str)) false rfl rfl uy9 (by decide) <| agb rfl <| jt <| c_false rfl <| csr <| scmp (a := ([103, 114, 111, 117, 112] : Str)) (b := ([110, 117, 109, 98, 101, 114] : Str)) false rfl rfl uy9 (by decide) <| agb rfl <| jt <| c_false rfl <| csr <| scmp (a := ([103, 114, 111, 117, 112] : Str)) (b := ([100, 105, 103, 105, 116] : Str)) false rfl rfl uy9 (by decide) <| agb rfl <| jt <| c_false rfl ?_
 refine csr <| scmp (a := ([103, 114, 111, 117, 112] : Str)) (b := ([110, 97, 109, 101] : Str)) false rfl rfl uy9 (by decide) <| agb rfl <| jt <| c_false rfl <| csr <| scmp (a := ([103, 114, 111, 117, 112] : Str)) (b := ([103, 114, 111, 117, 112] : Str)) true rfl rfl uy9 (by decide) <| agb rfl <| jt <| c_true rfl <| csr <| mvs rfl <| cal (pisGroup_ct w (by omega) (by omega)) [] [] [] rfl rfl rfl (by kernel_rfl) impl_nil rfl ?_; rintro _ _ _ ⟨rfl, rfl, rfl⟩; refine ⟨trivial, ?_⟩
 refine agb rfl <| jt <| c_ret ?_
 exact j_z (own0 := []) (ro0 := []) (.inl rfl) rfl (hr1 Tryz.results43 (rvt (v := (.bool _)) rfl)) rfl (⟨rfl, rfl, rfl⟩)
theorem pfits_seed (w : Str) (h0 : 0 < w.length) (hw : w.length ≤ 140737488351232) : Ct Tryz.prog 43 [strV ([115, 101, 101, 100] : Str), strV w] [] [] (fun v o r => v = .bool (fit28 100 w) ∧ o = [] ∧ r = []) := by
 refine ct_enter Tryz.func43 rfl Tryz.ntmps43 (by kernel_rfl) rfl fun w0 => ?_
 refine csr <| agb rfl <| jt <| c_seq <| csr <| mvs rfl <| jt <| c_block <| csr <| scmp (a := ([115, 101, 101, 100] : Str)) (b := ([118, 101, 114, 115, 105, 111, 110] : Str)) false rfl rfl uy9 (by decide) <| agb rfl <| jt <| c_false rfl <| csr <| scmp (a := ([115, 101, 101, 100] : Str)) (b := ([115, 107, 105, 112] : Str)) false rfl rfl uy9 (by decide) <| agb rfl <| jt <| c_false rfl <| csr <| scmp (a := ([115, 101, 101, 100] : Str)) (b := ([115, 116, 111, 114, 101] : Str)) false rfl rfl uy9 (by decide) <| agb rfl <| jt <| c_false rfl <| csr <| scmp (a := ([115, 101, 101, 100] : Str)) (b := ([110, 117, 109, 98, 101, 114] : Str)) false rfl rfl uy9 (by decide) <| agb rfl <| jt <| c_false rfl <| csr <| scmp (a := ([115, 101, 101, 100] : Str)) (b := ([100, 105, 103, 105, 116] : Str)) false rfl rfl uy9 (by decide) <| agb rfl <| jt <| c_false rfl ?_
 refine csr <| scmp (a := ([115, 101, 101, 100] : Str)) (b := ([110, 97, 109, 101] : Str)) false rfl rfl uy9 (by decide) <| agb rfl <| jt <| c_false rfl <| csr <| scmp (a := ([115, 101, 101, 100] : Str)) (b := ([103, 114, 111, 117, 112] : Str)) false rfl rfl uy9 (by decide) <| agb rfl <| jt <| c_false rfl <| c_skip <| e_in <| e_then <| csr <| mvs rfl <| lenT (s := w) rfl uy9 <| cmp _ rfl rfl rfl <| mvb rfl <| jsplit 67 rfl (fun h1 => ?_) (fun h1 => ?_)
 ·replace h1 := of_decide_eq_true h1
  refine g_on rfl rfl rfl <| mvs rfl <| g_on rfl rfl rfl <| cal (pall_ct w 76 seedB pf1_ct (by omega) (by omega)) [] [] [] rfl rfl rfl (by kernel_rfl) impl_nil rfl ?_; rintro _ _ _ ⟨rfl, rfl, rfl⟩; refine ⟨trivial, ?_⟩
  refine pkt (.bool _) rfl rfl <| agb rfl <| jt <| c_ret ?_
  exact j_z (own0 := []) (ro0 := []) (.inl rfl) rfl (hr1 Tryz.results43 (rvt (v := (.bool _)) rfl)) rfl (⟨congrArg Value.bool (by simp only [fit28]; first | (simp_all; done) | (simp_all; intros; omega)), rfl, rfl⟩)
 ·replace h1 := of_decide_eq_false h1
  refine g_off rfl rfl rfl rfl <| g_off rfl rfl rfl rfl <| pkf (.bool _) rfl rfl <| agb rfl <| jt <| c_ret ?_
  exact j_z (own0 := []) (ro0 := []) (.inl rfl) rfl (hr1 Tryz.results43 (rvt (v := (.bool _)) rfl)) rfl (⟨congrArg Value.bool (by simp only [fit28]; first | (simp_all; done) | (simp_all; intros; omega)), rfl, rfl⟩)
theorem pfits_digit (w : Str) (h0 : 0 < w.length) (hw : w.length ≤ 140737488351232) : Ct Tryz.prog 43 [strV ([100, 105, 103, 105, 116] : Str), strV w] [] [] (fun v o r => v = .bool (fit28 68 w) ∧ o = [] ∧ r = []) := by
 refine ct_enter Tryz.func43 rfl Tryz.ntmps43 (by kernel_rfl) rfl fun w0 => ?_
 refine csr <| agb rfl <| jt <| c_seq <| csr <| mvs rfl <| jt <| c_block <| csr <| scmp (a := ([100, 105, 103, 105, 116] : Str)) (b := ([118, 101, 114, 115, 105, 111, 110] : Str)) false rfl rfl uy9 (by decide) <| agb rfl <| jt <| c_false rfl <| csr <| scmp (a := ([100, 105, 103, 105, 116] : Str)) (b := ([115, 107, 105, 112] : Str)) false rfl rfl uy9 (by decide) <| agb rfl <| jt <| c_false rfl <| csr <| scmp (a := ([100, 105, 103, 105, 116] : Str)) (b := ([115, 116, 111, 114, 101] : Str)) false rfl rfl uy9 (by decide) <| agb rfl <| jt <| c_false rfl <| csr <| scmp (a := ([100, 105, 103, 105, 116] : Str)) (b := ([110, 117, 109, 98, 101, 114] : Str)) false rfl rfl uy9 (by decide) <| agb rfl <| jt <| c_false rfl <| csr <| scmp (a := ([100, 105, 103, 105, 116] : Str)) (b := ([100, 105, 103, 105, 116] : Str)) true rfl rfl uy9 (by decide) <| agb rfl <| jt <| c_true rfl ?_
 refine csr <| mvs rfl <| lenT (s := w) rfl uy9 <| cmp _ rfl rfl rfl <| mvb rfl <| jsplit 41 rfl (fun h1 => ?_) (fun h1 => ?_)
 ·replace h1 := of_decide_eq_true h1
  refine g_on rfl rfl rfl <| mvs rfl <| g_on rfl rfl rfl <| idxT (s := w) 0 rfl rfl uy9 rfl (by first | omega | (simp; done) | (simp; omega) | (simp at *; omega)) <| g_on rfl rfl rfl <| cmp _ rfl rfl rfl <| pkt (.bool _) rfl rfl <| mvb rfl <| jsplit 46 rfl (fun h2 => ?_) (fun h2 => ?_)
  ·replace h2 := of_decide_eq_true h2
   refine g_on rfl rfl rfl <| mvs rfl <| g_on rfl rfl rfl <| idxT (s := w) 0 rfl rfl uy9 rfl (by first | omega | (simp; done) | (simp; omega) | (simp at *; omega)) <| g_on rfl rfl rfl <| cmp _ rfl rfl rfl <| pkt (.bool _) rfl rfl <| agb rfl <| jt <| c_ret ?_
   exact j_z (own0 := []) (ro0 := []) (.inl rfl) rfl (hr1 Tryz.results43 (rvt (v := (.bool _)) rfl)) rfl (⟨congrArg Value.bool (by first | (rw [digit_no (by omega)]) | (rw [← digit_1 (by omega)]; first | rfl | (simp_all; done) | (simp_all; intros; omega) | (simp_all; omega))), rfl, rfl⟩)
  ·replace h2 := of_decide_eq_false h2
   refine g_off rfl rfl rfl rfl <| g_off rfl rfl rfl rfl <| g_off rfl rfl rfl rfl <| pkf (.bool _) rfl rfl <| agb rfl <| jt <| c_ret ?_
   exact j_z (own0 := []) (ro0 := []) (.inl rfl) rfl (hr1 Tryz.results43 (rvt (v := (.bool _)) rfl)) rfl (⟨congrArg Value.bool (by first | (rw [digit_no (by omega)]) | (rw [← digit_1 (by omega)]; first | rfl | (simp_all; done) | (simp_all; intros; omega) | (simp_all; omega))), rfl, rfl⟩)
 ·replace h1 := of_decide_eq_false h1
  refine g_off rfl rfl rfl rfl <| g_off rfl rfl rfl rfl <| g_off rfl rfl rfl rfl <| pkf (.bool _) rfl rfl <| mvb rfl <| g_off rfl rfl rfl rfl <| g_off rfl rfl rfl rfl <| g_off rfl rfl rfl rfl <| pkf (.bool _) rfl rfl <| agb rfl <| jt <| c_ret ?_
  exact j_z (own0 := []) (ro0 := []) (.inl rfl) rfl (hr1 Tryz.results43 (rvt (v := (.bool _)) rfl)) rfl (⟨congrArg Value.bool (by first | (rw [digit_no (by omega)]) | (rw [← digit_1 (by omega)]; first | rfl | (simp_all; done) | (simp_all; intros; omega) | (simp_all; omega))), rfl, rfl⟩)
theorem pfits_number (w : Str) (h0 : 0 < w.length) (hw : w.length ≤ 140737488351232) : Ct Tryz.prog 43 [strV ([110, 117, 109, 98, 101, 114] : Str), strV w] [] [] (fun v o r => v = .bool (fit28 110 w) ∧ o = [] ∧ r = []) := by
 refine ct_enter Tryz.func43 rfl Tryz.ntmps43 (by kernel_rfl) rfl fun w0 => ?_
 refine csr <| agb rfl <| jt <| c_seq <| csr <| mvs rfl <| jt <| c_block <| csr <| scmp (a := ([110, 117, 109, 98, 101, 114] : Str)) (b := ([118, 101, 114, 115, 105, 111, 110] : Str)) false rfl rfl uy9 (by decide) <| agb rfl <| jt <| c_false rfl <| csr <| scmp (a := ([110, 117, 109, 98, 101, 114] : Str)) (b := ([115, 107, 105, 112] : Str)) false rfl rfl uy9 (by decide) <| agb rfl <| jt <| c_false rfl <| csr <| scmp (a := ([110, 117, 109, 98, 101, 114] : Str)) (b := ([115, 116, 111, 114, 101] : Str)) false rfl rfl uy9 (by decide) <| agb rfl <| jt <| c_false rfl <| csr <| scmp (a := ([110, 117, 109, 98, 101, 114] : Str)) (b := ([110, 117, 109, 98, 101, 114] : Str)) true rfl rfl uy9 (by decide) <| agb rfl <| jt <| c_true rfl <| csr <| mvs rfl <| cal (pisNumber_ct w (by omega) (by omega)) [] [] [] rfl rfl rfl (by kernel_rfl) impl_nil rfl ?_; rintro _ _ _ ⟨rfl, rfl, rfl⟩; refine ⟨trivial, ?_⟩
 refine agb rfl <| jt <| c_ret ?_
 exact j_z (own0 := []) (ro0 := []) (.inl rfl) rfl (hr1 Tryz.results43 (rvt (v := (.bool _)) rfl)) rfl (⟨congrArg Value.bool (by simp only [fit28]; first | (simp_all; done) | (simp_all; intros; omega)), rfl, rfl⟩)
end Go.Proofs.YtakbbpahfclgnaaGreatDoor
namespace Go.Proofs.YtakbbpahfclgnaaGreatDoor
open Go Go.Proofs Go.PW
open Go.PW.Enc (enc val)
theorem lay97 : ∀ fs, Tryz.prog.underlying 97 = some (.struct fs) → Lay Tryz.prog fs [(0, 1), (1, 1)] := fun fs h => by rw [Tryz.underlying97] at h; cases h; unfold Lay; kernel_rfl
theorem z97 : Zt Tryz.prog 97 (.agg ⟨cat [pt ([] : Str), pt (0 : Int)]⟩) := by unfold Zt; kernel_rfl
theorem ty97 : Ty Tryz.prog 97 2 true := ⟨by kernel_rfl, by kernel_rfl⟩
theorem by97 : (Tryz.prog.info? 97).map (·.bytes) = some 24 := by kernel_rfl
structure WordP where
  text : Str
  at_ : Int
def WordP.parts (s : WordP) : List Pt := [pt s.text, pt s.at_]
instance : Enc WordP := ⟨2, fun s => cat s.parts, fun s => .agg ⟨cat s.parts⟩, true, fun s => cat_length s.parts, fun _ => .inl ⟨rfl, rfl⟩, fun s => cat_one s.parts⟩
instance : Flds WordP := ⟨WordP.parts, fun _ => rfl⟩
def toP (x : Nat × Str) : WordP := ⟨x.2, x.1⟩
theorem wof_go {s : Str} {p r : Nat} (hp : p < s.length) (hc : List.getD s p 0 ≠ 32) (hr : r = p + wlen s p) : (wordsL s p).map toP = (⟨List.take (r - p) (List.drop p s), (p : Int)⟩ : WordP) :: (wordsL s r).map toP := by
  subst hr
  rw [wordsL_here hp hc, List.map_cons, show p + wlen s p - p = wlen s p by omega]; rfl
theorem slCutN_ct (t : Str) (ht : t.length ≤ 1000000) : Ct Tryz.prog 38 [strV t, strV ([10] : Str)] [] [] (fun v o r => (idxN t 10 < t.length ∧ v = .tuple #[strV (t.take (idxN t 10)), strV (t.drop (idxN t 10 + 1)), .bool true] ∧ o = [] ∧ r = []) ∨ (¬ idxN t 10 < t.length ∧ v = .tuple #[strV t, strV [], .bool false] ∧ o = [] ∧ r = [])) := by
 have HL := idxN_le t 10
 refine ct_enter Tryz.func38 rfl Tryz.ntmps38 (by kernel_rfl) rfl fun w0 => ?_
 refine csr <| ags rfl <| ags rfl <| agb rfl <| jt <| c_seq <| csr <| mvs rfl <| mvs rfl <| cal (slIndexN_ct t) [] [] [] rfl rfl rfl (by kernel_rfl) impl_nil rfl ?_; rintro _ _ _ ⟨rfl, rfl, rfl⟩; refine ⟨trivial, ?_⟩
 refine agi rfl <| jsr <| mvi rfl <| cmp _ rfl rfl rfl <| jt <| c_cond rfl (fun h1 => ?_) (fun h1 => ?_)
 ·replace h1 := of_decide_eq_true h1
  refine c_seq ?_
  have HI := idxB_at (s := t) (c := 10) (by omega)
  have HJ := idxB_lt (s := t) (c := 10) (by omega)
  refine c_dr [] [] [(0, 0), (1, 0), (2, 0), (3, 0), (4, 0), (5, 0), (6, 0), (7, 0), (8, 0), (9, 0), (10, 0), (11, 0)] follows (by kernel_rfl) calm_body (keepS [] rfl) <| mvs rfl <| mvi rfl <| cutT (s := t) 0 (idxN t 10) rfl uy9 rfl ⟨_, congrArg (Value.int _) (by omega)⟩ (by first | omega | (simp; done) | (simp; omega)) (by first | omega | (simp; done) | (simp; omega)) (List.take (idxN t 10) t) (cut_lo _ _) <| mvs rfl <| mvi rfl <| mvs rfl <| lenC (s := ([10] : Str)) 1 rfl uy9 rfl <| addi rfl rfl rfl (by omega) <| cutT (s := t) (idxN t 10 + 1) t.length rfl uy9 ⟨_, congrArg (Value.int _) (by omega)⟩ rfl (by first | omega | (simp; done) | (simp; omega)) (by first | omega | (simp; done) | (simp; omega)) (List.drop (idxN t 10 + 1) t) (cut_hi _ _) <| ags rfl <| ags rfl <| agb rfl <| jt <| c_ret ?_
  exact j_z (own0 := []) (ro0 := []) (.inl rfl) rfl (hr3 Tryz.results38 (rvt (v := (.string _)) rfl) (rvt (v := (.string _)) rfl) (rvt (v := (.bool _)) rfl)) rfl (.inl ⟨HJ, rfl, rfl, rfl⟩)
 ·replace h1 := of_decide_eq_false h1
  refine c_skip <| e_then <| csr <| mvs rfl <| ags rfl <| ags rfl <| agb rfl <| jt <| c_ret ?_
  exact j_z (own0 := []) (ro0 := []) (.inl rfl) rfl (hr3 Tryz.results38 (rvt (v := (.string _)) rfl) (rvt (v := (.string _)) rfl) (rvt (v := (.bool _)) rfl)) rfl (.inr ⟨by have := idxN_all (s := t) (c := 10) (by omega); omega, rfl, rfl, rfl⟩)
theorem sCutN_ct (t : Str) (ht : t.length ≤ 1000000) : Ct Tryz.prog 23 [strV t, strV ([10] : Str)] [] [] (fun v o r => (idxN t 10 < t.length ∧ v = .tuple #[strV (t.take (idxN t 10)), strV (t.drop (idxN t 10 + 1)), .bool true] ∧ o = [] ∧ r = []) ∨ (¬ idxN t 10 < t.length ∧ v = .tuple #[strV t, strV [], .bool false] ∧ o = [] ∧ r = [])) := by
 refine ct_enter Tryz.func23 rfl Tryz.ntmps23 (by kernel_rfl) rfl fun w0 => ?_
 refine csr <| ags rfl <| ags rfl <| agb rfl <| jsr <| mvs rfl <| mvs rfl <| cal (slCutN_ct t (by omega)) [] [] [] rfl rfl rfl (by kernel_rfl) impl_nil rfl ?_; rintro _ _ _ (⟨hcu1, rfl, rfl, rfl⟩ | ⟨hcu1, rfl, rfl, rfl⟩)
 ·refine ⟨trivial, ?_⟩
  refine xtr (.string _) rfl rfl <| xtr (.string _) rfl rfl <| xtr (.bool _) rfl rfl <| ags rfl <| ags rfl <| agb rfl <| jt <| c_ret ?_
  exact j_z (own0 := []) (ro0 := []) (.inl rfl) rfl (hr3 Tryz.results23 (rvt (v := (.string _)) rfl) (rvt (v := (.string _)) rfl) (rvt (v := (.bool _)) rfl)) rfl (.inl ⟨hcu1, rfl, rfl, rfl⟩)
 ·refine ⟨trivial, ?_⟩
  refine xtr (.string _) rfl rfl <| xtr (.string _) rfl rfl <| xtr (.bool _) rfl rfl <| ags rfl <| ags rfl <| agb rfl <| jt <| c_ret ?_
  exact j_z (own0 := []) (ro0 := []) (.inl rfl) rfl (hr3 Tryz.results23 (rvt (v := (.string _)) rfl) (rvt (v := (.string _)) rfl) (rvt (v := (.bool _)) rfl)) rfl (.inr ⟨hcu1, rfl, rfl, rfl⟩)
theorem wordsOf_ct (s : Str) (hs : s.length ≤ 1000000) : Ct Tryz.prog 39 [strV s] [] [] (fun v w r => ∃ o' : Ow, o'.ok ((wordsL s 0).map toP) ∧ v = .slice o'.adr ((wordsL s 0).map toP).length o'.cap ∧ w = [o'.seg ((wordsL s 0).map toP) 97] ∧ r = []) := by
 refine ct_enter Tryz.func39 rfl Tryz.ntmps39 (by kernel_rfl) rfl fun w0 => ?_
 refine csr <| agl rfl <| jsr <| agl rfl <| jt <| c_seq <| csr <| agi rfl <| jt <| c_block <| c_addE <| c_loop (σ := Nat × List WordP × Ow) (fun (p, a, o) => p ≤ s.length ∧ o.ok a ∧ a.length ≤ p ∧ (wordsL s 0).map toP = a ++ (wordsL s p).map toP) (fun (p, a, o) => s.length - p) (fun (p, a, o) => [(4, .int .i64 (p : Int)), (3, .slice o.adr a.length o.cap)]) (fun (p, a, o) => [o.seg a 97]) (fun (p, a, o) => []) [3, 4, 5, 6, 7, 8, 9, 10, 11, 12, 13, 14, 15, 16, 17, 18, 19, 20, 21, 22, 23, 24, 25, 26, 27, 28, 29, 30, 31, 32, 33, 34, 35, 36, 37] (0, [], Ow.nil) (⟨Nat.zero_le _, Ow.nil_ok, Nat.le_refl _, rfl⟩) ⟨rfl, rfl, trivial⟩ rfl rfl ?_
 rintro ⟨p, a, o⟩ g1 hI1
 try dsimp only at hI1 ⊢
 have HA1 := hI1.2.2.1
 have HE1 := hI1.2.2.2
 refine c_seq <| csr <| mvi rfl <| mvs rfl <| lenT (s := s) rfl uy9 <| cmp _ rfl rfl rfl <| jt <| c_cond rfl (fun h1 => ?_) (fun h1 => ?_)
 ·replace h1 := of_decide_eq_true h1
  refine c_skip <| e_then <| c_block <| c_seq <| csr <| mvs rfl <| mvi rfl <| idxT (s := s) p rfl rfl uy9 rfl (by first | omega | (simp; done) | (simp; omega) | (simp at *; omega)) <| equ8 (a := (List.getD s p 0)) (b := (32 : UInt8)) _ rfl rfl rfl <| jt <| c_cond rfl (fun h2 => ?_) (fun h2 => ?_)
  ·replace h2 := of_decide_eq_true h2
   refine csr <| mvi rfl <| addi rfl rfl rfl (by omega) <| agi rfl <| jt <| c_exit rfl ?_
   exact e_lp (p + 1, a, o) (by repeat (first | exact out_self | refine out_hav (by kernel_rfl) ?_ | refine out_look (by kernel_rfl) ?_)) (by dsimp only; exact ⟨by omega, hI1.2.1, by omega, by rw [HE1, wordsL_skip (by omega) (by assumption)]⟩) (by show s.length - (p + 1) < s.length - p; omega) (⟨rfl, rfl, trivial⟩) rfl rfl rfl
  ·replace h2 := of_decide_eq_false h2
   refine c_skip <| e_then <| csr <| mvi rfl <| agi rfl <| jt <| c_seq <| c_block <| c_loop (σ := Nat) (fun r => p ≤ r ∧ r ≤ s.length ∧ r + wlen s r = p + wlen s p) (fun r => s.length - r) (fun r => [(4, .int .i64 (r : Int))]) (fun r => [o.seg a 97]) (fun r => []) [4, 17, 18, 19, 20, 21, 22, 23, 24, 25, 26, 27, 28] p (⟨Nat.le_refl _, by omega, rfl⟩) ⟨rfl, trivial⟩ rfl rfl ?_
   rintro r g2 hI2
   try dsimp only at hI2 ⊢
   refine c_seq <| csr <| mvi rfl <| mvs rfl <| lenT (s := s) rfl uy9 <| cmp _ rfl rfl rfl <| mvb rfl <| jsplit 21 rfl (fun h3 => ?_) (fun h3 => ?_)
   ·replace h3 := of_decide_eq_true h3
    refine g_on rfl rfl rfl <| mvs rfl <| g_on rfl rfl rfl <| mvi rfl <| g_on rfl rfl rfl <| idxT (s := s) r rfl rfl uy9 rfl (by first | omega | (simp; done) | (simp; omega) | (simp at *; omega)) <| g_on rfl rfl rfl <| equ8 (a := (List.getD s r 0)) (b := (32 : UInt8)) _ rfl rfl rfl <| pkt (.bool _) rfl rfl <| jt <| c_cond rfl (fun h4 => ?_) (fun h4 => ?_)
    ·replace h4 := ndt h4
     refine c_skip <| e_then <| c_block <| c_reg <| mvi rfl <| addi rfl rfl rfl (by omega) <| agi rfl <| jn <| e_in ?_
     exact e_loop (r + 1) (⟨by omega, by omega, by have := wlen_step (s := s) (i := r) (by omega) (by assumption); omega⟩) (by show s.length - (r + 1) < s.length - r; omega) (⟨rfl, trivial⟩) rfl rfl rfl
    ·replace h4 := ndf h4
     refine c_exit rfl <| e_then ?_
     have HR0 : wlen s r = 0 := wlen_end (fun hh => by first | omega | exact absurd hh.2 (by simpa using (by assumption)) | simp_all)
     have HP1 := wlen_pos (s := s) (p := p) (by omega) (by assumption)
     have HRE : r = p + wlen s p := by omega
     refine c_reg <| mvl rfl <| mvs rfl <| mvi rfl <| mvi rfl <| cutT (s := s) p r rfl uy9 ⟨_, rfl⟩ ⟨_, rfl⟩ (by first | omega | (simp; done) | (simp; omega)) (by first | omega | (simp; done) | (simp; omega)) (List.take (r - p) (List.drop p s)) rfl <| mvi rfl <| bld [pt ([] : Str), pt (0 : Int)] [(0, pt (List.take (r - p) (List.drop p s))), (1, p1 (.int .i64 (p : Int)))] _ uy97 (lay97 _ uy97) z97 rfl rfl rfl <| bsl (α := WordP) ([(⟨List.take (r - p) (List.drop p s), (p : Int)⟩ : WordP)]) uy94 ty97.sz rfl (by decide) z97 rfl fun b36 => ⟨trivial, ?_⟩
     refine app 0 o a ([(⟨List.take (r - p) (List.drop p s), (p : Int)⟩ : WordP)] : List WordP) hI1.2.1 rfl ⟨rfl, rfl, rfl⟩ rfl rfl (gives_own (ys := ([(⟨List.take (r - p) (List.drop p s), (p : Int)⟩ : WordP)] : List WordP)) (pre := []) (post := []) 1 rfl (by simp) rfl) uy94 uy94 (.inl ⟨_, rfl⟩) ty97.sz by97 z97 rfl (by simp; omega) rfl fun o37_1 hk37_1 => ⟨trivial, ?_⟩
     refine agl rfl <| jn <| e_in <| e_keep [0] [1] [_] rfl (by kernel_rfl) ?_
     exact e_lp (r, (a ++ ([(⟨List.take (r - p) (List.drop p s), (p : Int)⟩ : WordP)] : List WordP)), o37_1) (by repeat (first | exact out_self | refine out_hav (by kernel_rfl) ?_ | refine out_look (by kernel_rfl) ?_)) (by dsimp only; exact ⟨by omega, hk37_1, by simp; omega, HE1.trans (by rw [wof_go (by omega) (by assumption) HRE]; simp)⟩) (by show s.length - r < s.length - p; omega) (⟨rfl, rfl, trivial⟩) rfl rfl rfl
   ·replace h3 := of_decide_eq_false h3
    refine g_off rfl rfl rfl rfl <| g_off rfl rfl rfl rfl <| g_off rfl rfl rfl rfl <| g_off rfl rfl rfl rfl <| pkf (.bool _) rfl rfl <| jt <| c_false rfl <| c_exit rfl <| e_then ?_
    have HR0 : wlen s r = 0 := wlen_end (fun hh => by first | omega | exact absurd hh.2 (by simpa using (by assumption)) | simp_all)
    have HP1 := wlen_pos (s := s) (p := p) (by omega) (by assumption)
    have HRE : r = p + wlen s p := by omega
    refine c_reg <| mvl rfl <| mvs rfl <| mvi rfl <| mvi rfl <| cutT (s := s) p r rfl uy9 ⟨_, rfl⟩ ⟨_, rfl⟩ (by first | omega | (simp; done) | (simp; omega)) (by first | omega | (simp; done) | (simp; omega)) (List.take (r - p) (List.drop p s)) rfl <| mvi rfl <| bld [pt ([] : Str), pt (0 : Int)] [(0, pt (List.take (r - p) (List.drop p s))), (1, p1 (.int .i64 (p : Int)))] _ uy97 (lay97 _ uy97) z97 rfl rfl rfl <| bsl (α := WordP) ([(⟨List.take (r - p) (List.drop p s), (p : Int)⟩ : WordP)]) uy94 ty97.sz rfl (by decide) z97 rfl fun b36 => ⟨trivial, ?_⟩
    refine app 0 o a ([(⟨List.take (r - p) (List.drop p s), (p : Int)⟩ : WordP)] : List WordP) hI1.2.1 rfl ⟨rfl, rfl, rfl⟩ rfl rfl (gives_own (ys := ([(⟨List.take (r - p) (List.drop p s), (p : Int)⟩ : WordP)] : List WordP)) (pre := []) (post := []) 1 rfl (by simp) rfl) uy94 uy94 (.inl ⟨_, rfl⟩) ty97.sz by97 z97 rfl (by simp; omega) rfl fun o37_2 hk37_2 => ⟨trivial, ?_⟩
    refine agl rfl <| jn <| e_in <| e_keep [0] [1] [_] rfl (by kernel_rfl) ?_
    exact e_lp (r, (a ++ ([(⟨List.take (r - p) (List.drop p s), (p : Int)⟩ : WordP)] : List WordP)), o37_2) (by repeat (first | exact out_self | refine out_hav (by kernel_rfl) ?_ | refine out_look (by kernel_rfl) ?_)) (by dsimp only; exact ⟨by omega, hk37_2, by simp; omega, HE1.trans (by rw [wof_go (by omega) (by assumption) HRE]; simp)⟩) (by show s.length - r < s.length - p; omega) (⟨rfl, rfl, trivial⟩) rfl rfl rfl
 ·replace h1 := of_decide_eq_false h1
  refine c_exit rfl <| e_then <| csr <| mvl rfl <| agl rfl <| jt <| c_ret ?_
  exact j_end (own0 := []) (ro0 := []) (.inl rfl) rfl (hr1 Tryz.results39 (rvt (v := (.slice _ _ _)) rfl)) [0] [] [_] [] [] _ rfl rfl (by kernel_rfl) rfl impl_nil (⟨o, by rw [HE1, wordsL_out (by omega), List.map_nil, List.append_nil]; exact hI1.2.1, by rw [HE1, wordsL_out (by omega), List.map_nil, List.append_nil], by rw [HE1, wordsL_out (by omega), List.map_nil, List.append_nil], rfl⟩)
end Go.Proofs.YtakbbpahfclgnaaGreatDoor
namespace Go.Proofs.YtakbbpahfclgnaaGreatDoor
open Go Go.Proofs Go.PW
open Go.PW.Enc (enc val)
end Go.Proofs.YtakbbpahfclgnaaGreatDoor
namespace Go.PW
open Enc (enc val)
open Go
section
variable {cx : Cx} {md : Md} {ops : Array Oper} {Q : Exit → Act → World → Prop} {rest : List (Oper × Nat)} {base : Nat → Value} {L : List (Nat × Value)} {own ro : List Seg}
variable {q : Nat} {d : Nat} {ty : TypeId} {pos : String} {aft : Array Edge} {x : Operand} {xt : TypeId} {k : IntKind}
theorem unI {op : UnOp} {a : Int} (r : Value) (hx : ev cx.n base L x = .int k a) (hr : Op.unary op (.int k a) = pure r) (h : JG cx md ops Q rest base ((d, r) :: L) own ro) : JG cx md ops Q ((⟨some d, .unOp op xt x, ty, pos, aft, none⟩, q) :: rest) base L own ro :=
  qt (fun w _ => by simp only [execOp, hx, hr, Sem.run_bind, Sem.run_pure, Result.andThen_ok]) h
end
theorem un_01 {n : Nat} (h : n ≤ 1) : Op.unary .xor (.int .i64 (n : Int)) = pure (.int .i64 (-1 - (n : Int))) := by
  obtain rfl | rfl : n = 0 ∨ n = 1 := by omega
  · kernel_rfl
  · kernel_rfl
theorem and_01 {t : TypeId} {a n : Nat} (ha : a ≤ 1) (h : n ≤ 1) : binOp .and t (.int .i64 (a : Int)) (.int .i64 (-1 - (n : Int))) = pure (.int .i64 ((a * (1 - n) : Nat) : Int)) := by
  obtain rfl | rfl : n = 0 ∨ n = 1 := by omega
  · obtain rfl | rfl : a = 0 ∨ a = 1 := by omega
    · rfl
    · rfl
  · obtain rfl | rfl : a = 0 ∨ a = 1 := by omega
    · rfl
    · rfl
def ascL : List UInt8 := (List.range 256).map fun n => if n = 32 ∨ (9 ≤ n ∧ n ≤ 13) then 1 else 0
def tAsc (b : Nat) : Seg := [(b, .view 0 (encs ascL))]
theorem asc_len : ascL.length = 256 := by simp [ascL]
def smB (c : UInt8) : Prop := c = 32 ∨ (97 ≤ c.toNat ∧ c.toNat ≤ 122)
theorem asc_at {c : UInt8} (h : smB c) : List.getD ascL c.toNat 0 = if c = 32 then 1 else 0 := by
  have hx : ∀ x : Fin 256, (UInt8.ofNat x.val = 32 ∨ (97 ≤ (UInt8.ofNat x.val).toNat ∧ (UInt8.ofNat x.val).toNat ≤ 122)) → List.getD ascL (UInt8.ofNat x.val).toNat 0 = if UInt8.ofNat x.val = 32 then 1 else 0 := by decide +kernel
  have := hx ⟨c.toNat, c.toNat_lt⟩
  simp only [UInt8.ofNat_toNat] at this
  exact this h
theorem asc_ne {c : UInt8} (h : smB c) : (!decide (List.getD ascL c.toNat 0 = 0)) = decide (c = 32) := by
  rw [asc_at h]; by_cases hc : c = 32 <;> simp [hc]
theorem asc_eq {c : UInt8} (h : smB c) : decide (List.getD ascL c.toNat 0 = 0) = !decide (c = 32) := by
  rw [asc_at h]; by_cases hc : c = 32 <;> simp [hc]
theorem asc_le {c : UInt8} (h : smB c) : (List.getD ascL c.toNat 0).toNat ≤ 1 := by
  rw [asc_at h]; split <;> decide
theorem sm_128 {c u : UInt8} (h : smB c) (hu : u.toNat < 128) : (u ||| c).toNat < 128 := by
  have hc : c.toNat < 128 := by rcases h with rfl | h; decide; omega
  rw [UInt8.toNat_or]
  exact Nat.or_lt_two_pow (n := 7) hu hc
def FC (s : Str) (i n a : Nat) : Prop := i ≤ s.length ∧ a ≤ 1 ∧ n + (wordsL s (if a = 1 then i else i + wlen s i)).length = (wordsL s 0).length
theorem FC.step {s : Str} {i n a : Nat} (h : FC s i n a) (hi : i < s.length) (hc : smB (List.getD s i 0)) : FC s (i + 1) (n + a * (1 - (List.getD ascL (List.getD s i 0).toNat 0).toNat)) (List.getD ascL (List.getD s i 0).toNat 0).toNat := by
  obtain ⟨h1, h2, h3⟩ := h
  rw [asc_at hc]
  by_cases e : List.getD s i 0 = 32
  · rw [if_pos e]
    refine ⟨by omega, by decide, ?_⟩
    have hw : wlen s i = 0 := wlen_end (fun hh => hh.2 e)
    rw [show (1 : UInt8).toNat = 1 from rfl, if_pos rfl, wordsL_skip hi e, show a * (1 - 1) = 0 by omega, Nat.add_zero, ← h3]
    by_cases ha : a = 1
    · rw [if_pos ha]
    · rw [if_neg ha, hw, Nat.add_zero]
  · rw [if_neg e]
    have hw := wlen_step hi e
    refine ⟨by omega, by decide, ?_⟩
    rw [show (0 : UInt8).toNat = 0 from rfl, if_neg (by decide), show i + 1 + wlen s (i + 1) = i + wlen s i by omega, ← h3]
    by_cases ha : a = 1
    · rw [if_pos ha, wordsL_here hi e, ha, List.length_cons]; omega
    · rw [if_neg ha, show a = 0 by omega]; omega
theorem FC.fin {s : Str} {i n a : Nat} (h : FC s i n a) (hi : ¬ i < s.length) : n = (wordsL s 0).length := by
  obtain ⟨h1, h2, h3⟩ := h
  rw [← h3, wordsL_out (by split <;> omega)]; rfl
end Go.PW
namespace Go.Proofs.YtakbbpahfclgnaaGreatDoor
open Go Go.Proofs Go.PW
open Go.PW.Enc (enc val)
def FI (s : Str) (n i f na : Nat) (xs : List Str) : Prop := f ≤ i ∧ i ≤ s.length ∧ xs.length = n ∧ (∀ j, f ≤ j → j < i → List.getD s j 0 ≠ 32) ∧ (f < s.length → List.getD s f 0 ≠ 32) ∧ xs.take na ++ (wordsL s f).map (·.2) = (wordsL s 0).map (·.2) ∧ na ≤ n ∧ n = (wordsL s 0).length
theorem FI.begin {s : Str} {n p : Nat} {xs : List Str} (hp : p ≤ s.length) (hw : wordsL s p = wordsL s 0) (hx : xs.length = n) (hn : n = (wordsL s 0).length) (hc : p < s.length → List.getD s p 0 ≠ 32) : FI s n p p 0 xs :=
  ⟨Nat.le_refl _, hp, hx, fun j h1 h2 => by omega, hc, by rw [hw]; simp, Nat.zero_le _, hn⟩
theorem FI.step {s : Str} {n i f na : Nat} {xs : List Str} (h : FI s n i f na xs) (hi : i < s.length) (hc : List.getD s i 0 ≠ 32) : FI s n (i + 1) f na xs := by
  obtain ⟨h1, h2, h3, h4, h5, h6, h7, h8⟩ := h
  refine ⟨by omega, by omega, h3, fun j a b => ?_, h5, h6, h7, h8⟩
  rcases Nat.lt_or_ge j i with h | h
  · exact h4 j a h
  · rw [show j = i by omega]; exact hc
theorem FI.lt {s : Str} {n i f na : Nat} {xs : List Str} (h : FI s n i f na xs) (hf : f < s.length) : na < n := by
  obtain ⟨h1, h2, h3, h4, h5, h6, h7, h8⟩ := h
  have := congrArg List.length h6
  rw [wordsL_here hf (h5 hf)] at this
  simp [List.length_take] at this; omega
theorem FI.put {s : Str} {n i f na : Nat} {xs : List Str} (h : FI s n i f na xs) (hf : f < i) (hi : i = s.length ∨ List.getD s i 0 = 32) : (xs.set na (List.take (i - f) (List.drop f s))).take (na + 1) ++ (wordsL s i).map (·.2) = (wordsL s 0).map (·.2) := by
  have hlt := h.lt (by have := h.2.1; omega)
  obtain ⟨h1, h2, h3, h4, h5, h6, h7, h8⟩ := h
  have hl := wl_is hf h2 h4 hi
  rw [← h6, wordsL_here (by omega) (h5 (by omega)), hl, show f + (i - f) = i by omega]
  have : (xs.set na (List.take (i - f) (List.drop f s))).take (na + 1) = xs.take na ++ [List.take (i - f) (List.drop f s)] := by
    rw [List.take_set, List.take_succ_eq_append_getElem (by omega), List.set_append_right _ _ (by rw [List.length_take]; exact Nat.min_le_left _ _)]
    simp [Nat.min_eq_left (show na ≤ xs.length by omega)]
  rw [this]; simp [word, hl]
theorem FI.word {s : Str} {n i f na p : Nat} {xs : List Str} (h : FI s n i f na xs) (hi : i < s.length) (hc : List.getD s i 0 = 32) (hp : p ≤ s.length) (hw : wordsL s p = wordsL s (i + 1)) (hpc : p < s.length → List.getD s p 0 ≠ 32) : FI s n p p (na + 1) (xs.set na (List.take (i - f) (List.drop f s))) := by
  have hf : f < i := by
    have := h.1
    rcases Nat.lt_or_ge f i with h' | h'
    · exact h'
    · have e : f = i := by omega
      exact absurd hc (by rw [← e]; exact h.2.2.2.2.1 (by omega))
  have hput := h.put hf (.inr hc)
  have hlt := h.lt (by omega)
  refine ⟨Nat.le_refl _, hp, by rw [List.length_set]; exact h.2.2.1, fun j a b => by omega, hpc, ?_, by omega, h.2.2.2.2.2.2.2⟩
  rw [hw, wordsL_skip hi hc]; exact hput
theorem FI.endw {s : Str} {n i f na : Nat} {xs : List Str} (h : FI s n i f na xs) (hi : ¬ i < s.length) (hf : f < s.length) : xs.set na (List.drop f s) = (wordsL s 0).map (·.2) := by
  have hlt := h.lt hf
  have e : i = s.length := by have := h.2.1; omega
  have hput := h.put (by omega) (.inl e)
  have e2 : List.take (s.length - f) (List.drop f s) = List.drop f s := List.take_of_length_le (by rw [List.length_drop]; omega)
  rw [wordsL_out (by omega), List.map_nil, List.append_nil, e, e2] at hput
  have hl := congrArg List.length hput
  rw [List.length_map, ← h.2.2.2.2.2.2.2, List.length_take, List.length_set, h.2.2.1] at hl
  rw [List.take_of_length_le (by rw [List.length_set, h.2.2.1]; omega)] at hput
  exact hput
theorem FI.ende {s : Str} {n i f na : Nat} {xs : List Str} (h : FI s n i f na xs) (hf : ¬ f < s.length) : xs = (wordsL s 0).map (·.2) := by
  obtain ⟨h1, h2, h3, h4, h5, h6, h7, h8⟩ := h
  rw [wordsL_out hf, List.map_nil, List.append_nil] at h6
  have hl := congrArg List.length h6
  rw [List.length_map, ← h8, List.length_take, h3] at hl
  rw [List.take_of_length_le (by omega)] at h6
  exact h6
theorem sFields_ct (s : Str) (hs : s.length ≤ 1000000) (HS : ∀ j, j < s.length → smB (List.getD s j 0)) : Ct Tryz.prog 41 [strV s] [] [tAsc 1] (fun v w r => ∃ o' : Ow, o'.ok ((wordsL s 0).map (·.2)) ∧ v = .slice o'.adr ((wordsL s 0).map (·.2)).length o'.cap ∧ w = [o'.seg ((wordsL s 0).map (·.2)) 9] ∧ r = []) := by
 refine ct_enter Tryz.func41 rfl Tryz.ntmps41 (by kernel_rfl) rfl fun w0 => ?_
 refine csr <| agl rfl <| jsr <| agi rfl <| jsr <| agi rfl <| jsr <| agi rfl <| jt <| c_seq <| csr <| agi rfl <| jt <| c_block <| c_loop (σ := Nat × Nat × Nat × UInt8) (fun (i, n, a, u) => FC s i n a ∧ u.toNat < 128 ∧ n ≤ i) (fun (i, n, a, u) => s.length - i) (fun (i, n, a, u) => [(6, .int .i64 (i : Int)), (3, .int .i64 (n : Int)), (4, .int .i64 (a : Int)), (5, .int .u8 (u.toNat : Int))]) (fun (i, n, a, u) => []) (fun (i, n, a, u) => [tAsc 1]) [3, 4, 5, 6, 7, 8, 13, 14, 15, 16, 17, 18, 19, 20, 21, 22, 23, 24, 25, 26, 27, 28, 29, 30, 31, 32, 33, 34, 35] (0, 0, 1, 0) (⟨⟨Nat.zero_le _, by decide, by rw [if_pos rfl]; omega⟩, by decide, Nat.le_refl _⟩) ⟨rfl, rfl, rfl, rfl, trivial⟩ rfl rfl ?_
 rintro ⟨i, n, a, u⟩ g1 hI1
 try dsimp only at hI1 ⊢
 have HFC := hI1.1
 have HU := hI1.2.1
 have HNI := hI1.2.2
 have HIL := HFC.1
 have HA1 := HFC.2.1
 refine c_seq <| csr <| mvi rfl <| mvs rfl <| lenT (s := s) rfl uy9 <| cmp _ rfl rfl rfl <| jt <| c_cond rfl (fun h1 => ?_) (fun h1 => ?_)
 ·replace h1 := of_decide_eq_true h1
  refine c_skip <| e_then <| c_seq <| c_block <| c_seq ?_
  have HCI := HS i (by omega)
  have HAB : a * (1 - (List.getD ascL (List.getD s i 0).toNat 0).toNat) ≤ 1 := Nat.le_trans (Nat.mul_le_mul HA1 (Nat.sub_le _ _)) (by decide)
  refine c_reg <| mvs rfl <| mvi rfl <| idxT (s := s) i rfl rfl uy9 rfl (by first | omega | (simp; done) | (simp; omega) | (simp at *; omega)) <| agi rfl <| jsr <| mvi rfl <| mvi rfl <| orU8 (a := u) (b := (List.getD s i 0)) rfl rfl <| agi rfl <| jsr <| mvi rfl <| ixaA ((List.getD s i 0).toNat) rfl rfl uy132 ty5.sz rfl (by have := UInt8.toNat_lt (List.getD s i 0); first | omega | (rw [asc_len]; omega)) <| ldvG 0 ((List.getD s i 0).toNat) (List.getD ascL ((List.getD s i 0).toNat) (0)) rfl rfl rfl (getD_some (by have := UInt8.toNat_lt (List.getD s i 0); first | omega | (rw [asc_len]; omega))) ty5 <| cvI ((List.getD ascL ((List.getD s i 0).toNat) (0)).toNat : Int) rfl uy5 uy3 (wI64 (by have := UInt8.toNat_lt (List.getD ascL ((List.getD s i 0).toNat) (0)); omega)) <| agi rfl <| jsr <| mvi rfl <| mvi rfl <| mvi rfl <| unI _ rfl (un_01 (asc_le HCI)) <| bopI (.int .i64 (((a * (1 - (List.getD ascL (List.getD s i 0).toNat 0).toNat)) : Nat) : Int)) rfl rfl (and_01 (by omega) (asc_le HCI)) <| addi rfl rfl rfl (by omega) <| agi rfl <| jr <| mvi rfl <| agi rfl <| jn <| e_in <| e_then <| c_reg <| mvi rfl <| addi rfl rfl rfl (by omega) ?_
  refine agi rfl <| jn ?_
  exact e_loop (i + 1, n + a * (1 - (List.getD ascL (List.getD s i 0).toNat 0).toNat), (List.getD ascL (List.getD s i 0).toNat 0).toNat, u ||| (List.getD s i 0)) (⟨HFC.step (by omega) HCI, sm_128 HCI HU, by show n + a * (1 - (List.getD ascL (List.getD s i 0).toNat 0).toNat) ≤ i + 1; omega⟩) (by show s.length - (i + 1) < s.length - i; omega) (⟨rfl, congrArg (Value.int _) (by show _ = ((n + a * (1 - (List.getD ascL (List.getD s i 0).toNat 0).toNat) : Nat) : Int); omega), rfl, rfl, trivial⟩) rfl rfl rfl
 ·replace h1 := of_decide_eq_false h1
  refine c_exit rfl <| e_then <| c_seq <| csr <| mvi rfl <| cmp false rfl rfl (by simp only [cmpV]; exact congrArg some (decide_eq_false (by omega))) <| jt <| c_false rfl <| c_skip <| e_then <| c_seq ?_
  have HNW := HFC.fin (by omega)
  refine c_reg <| mvi rfl <| mks (([] : Str) : Str) n n rfl rfl rfl rfl (Nat.le_refl _) uy37 ty9.sz by9 zw9 (by omega) rfl fun b41 => ⟨trivial, ?_⟩
  refine agl rfl <| jsr <| agi rfl <| jsr <| agi rfl <| jsr <| agi rfl <| jt <| c_seq <| c_block <| c_loop (σ := Nat) (fun p => p ≤ s.length ∧ wordsL s p = wordsL s 0) (fun p => s.length - p) (fun p => [(12, .int .i64 (p : Int))]) (fun p => [Ow.seg (⟨false, b41, n, encs (List.replicate (n - n) (([] : Str) : Str))⟩ : Ow) (List.replicate n (([] : Str) : Str)) 9]) (fun p => [tAsc 1]) [12, 42, 43, 44, 45, 46, 47, 48, 49, 50, 51, 52, 53, 54, 55] 0 (⟨Nat.zero_le _, rfl⟩) ⟨rfl, trivial⟩ rfl rfl ?_
  rintro p g2 hI2
  try dsimp only at hI2 ⊢
  refine c_seq <| csr <| mvi rfl <| mvs rfl <| lenT (s := s) rfl uy9 <| cmp _ rfl rfl rfl <| mvb rfl <| jsplit 46 rfl (fun h2 => ?_) (fun h2 => ?_)
  ·replace h2 := of_decide_eq_true h2
   refine g_on rfl rfl rfl <| mvs rfl <| g_on rfl rfl rfl <| mvi rfl <| g_on rfl rfl rfl <| idxT (s := s) p rfl rfl uy9 rfl (by first | omega | (simp; done) | (simp; omega) | (simp at *; omega)) <| g_on rfl rfl rfl <| ixaA ((List.getD s p 0).toNat) rfl rfl uy132 ty5.sz rfl (by have := UInt8.toNat_lt (List.getD s p 0); first | omega | (rw [asc_len]; omega)) <| g_on rfl rfl rfl <| ldvG 1 ((List.getD s p 0).toNat) (List.getD ascL ((List.getD s p 0).toNat) (0)) rfl rfl rfl (getD_some (by have := UInt8.toNat_lt (List.getD s p 0); first | omega | (rw [asc_len]; omega))) ty5 <| g_on rfl rfl rfl <| equ8 (a := (List.getD ascL ((List.getD s p 0).toNat) (0))) (b := (0 : UInt8)) _ rfl rfl rfl <| j_re 52 (.bool (decide ((List.getD s p 0) = 32))) (congrArg Value.bool (asc_ne (HS p (by omega)))) <| pkt (.bool _) rfl rfl <| jt <| c_cond rfl (fun h3 => ?_) (fun h3 => ?_)
   ·replace h3 := of_decide_eq_true h3
    refine c_skip <| e_then <| c_block <| c_reg <| mvi rfl <| addi rfl rfl rfl (by omega) <| agi rfl <| jn <| e_in ?_
    exact e_loop (p + 1) (⟨by omega, by rw [wordsL_skip (by omega) (by assumption)]; exact hI2.2⟩) (by show s.length - (p + 1) < s.length - p; omega) (⟨rfl, trivial⟩) rfl rfl rfl
   ·replace h3 := of_decide_eq_false h3
    refine c_exit rfl <| e_then <| c_seq ?_
    have HPC : p < s.length → (List.getD s p 0) ≠ 32 := (fun hp => by first | omega | (simp_all; done) | assumption)
    refine c_reg <| mvi rfl <| agi rfl <| jt <| c_seq <| c_block <| c_loop (σ := Nat × Nat × Nat × List Str) (fun (i, f, na, xs) => FI s n i f na xs) (fun (i, f, na, xs) => s.length - i) (fun (i, f, na, xs) => [(12, .int .i64 (i : Int)), (11, .int .i64 (f : Int)), (10, .int .i64 (na : Int))]) (fun (i, f, na, xs) => [(⟨false, b41, n, encs (List.replicate (n - n) ([] : Str))⟩ : Ow).seg xs 9]) (fun (i, f, na, xs) => [tAsc 1]) [10, 11, 12, 57, 58, 59, 60, 61, 62, 63, 64, 65, 66, 67, 68, 69, 70, 71, 72, 73, 74, 75, 76, 77, 78, 79, 80, 81, 82, 83, 84, 85, 86, 87, 88, 89, 90, 91, 92, 93, 94] (p, p, 0, List.replicate n ([] : Str)) (FI.begin hI2.1 hI2.2 (by simp) HNW HPC) ⟨rfl, rfl, rfl, trivial⟩ rfl rfl ?_
    rintro ⟨i, f, na, xs⟩ g3 hI3
    try dsimp only at hI3 ⊢
    have hxl := hI3.2.2.1
    have hxo : Ow.ok (⟨false, b41, n, encs (List.replicate (n - n) ([] : Str))⟩ : Ow) xs := row_ok hxl
    have HFI := hI3.1
    have HIS := hI3.2.1
    have HNA := hI3.2.2.2.2.2.2.1
    refine c_seq <| csr <| mvi rfl <| mvs rfl <| lenT (s := s) rfl uy9 <| cmp _ rfl rfl rfl <| jt <| c_cond rfl (fun h4 => ?_) (fun h4 => ?_)
    ·replace h4 := of_decide_eq_true h4
     refine c_skip <| e_then <| c_block <| c_seq <| csr <| mvs rfl <| mvi rfl <| idxT (s := s) i rfl rfl uy9 rfl (by first | omega | (simp; done) | (simp; omega) | (simp at *; omega)) <| ixaA ((List.getD s i 0).toNat) rfl rfl uy132 ty5.sz rfl (by have := UInt8.toNat_lt (List.getD s i 0); first | omega | (rw [asc_len]; omega)) <| ldvG 1 ((List.getD s i 0).toNat) (List.getD ascL ((List.getD s i 0).toNat) (0)) rfl rfl rfl (getD_some (by have := UInt8.toNat_lt (List.getD s i 0); first | omega | (rw [asc_len]; omega))) ty5 <| equ8 (a := (List.getD ascL ((List.getD s i 0).toNat) (0))) (b := (0 : UInt8)) _ rfl rfl rfl <| j_re 66 (.bool (!decide ((List.getD s i 0) = 32))) (congrArg Value.bool (asc_eq (HS i (by omega)))) <| jt <| c_cond rfl (fun h5 => ?_) (fun h5 => ?_)
     ·replace h5 := ndt h5
      refine csr <| mvi rfl <| addi rfl rfl rfl (by omega) <| agi rfl <| jt <| c_exit rfl ?_
      exact e_lp (i + 1, f, na, xs) (by repeat (first | exact out_self | refine out_hav (by kernel_rfl) ?_ | refine out_look (by kernel_rfl) ?_)) (FI.step hI3 (by omega) (by assumption)) (by show s.length - (i + 1) < s.length - i; omega) (⟨rfl, rfl, rfl, trivial⟩) rfl rfl rfl
     ·replace h5 := ndf h5
      refine c_skip <| e_then <| c_seq ?_
      have HLT := FI.lt hI3 (by have := hI3.1; omega)
      refine c_reg <| mvl rfl <| mvi rfl <| mvs rfl <| mvi rfl <| mvi rfl <| cutT (s := s) f i rfl uy9 ⟨_, rfl⟩ ⟨_, rfl⟩ (by first | omega | (simp; done) | (simp; omega)) (by first | omega | (simp; done) | (simp; omega)) (List.take (i - f) (List.drop f s)) rfl <| ixs (((⟨false, b41, n, encs (List.replicate (n - n) ([] : Str))⟩ : Ow)).vs) xs na (Ow.vs_ok hxo) rfl hxl.symm rfl uy37 ty9.sz rfl (by omega) <| sto 0 na (List.take (i - f) (List.drop f s)) hxo rfl rfl rfl rfl rfl (by omega) ty9 ⟨trivial, ?_⟩
      refine jsr <| mvi rfl <| addi rfl rfl rfl (by omega) <| agi rfl <| jsr <| mvi rfl <| addi rfl rfl rfl (by omega) <| agi rfl <| jt <| c_seq <| c_block <| c_loop (σ := Nat) (fun r => i + 1 ≤ r ∧ r ≤ s.length ∧ wordsL s r = wordsL s (i + 1)) (fun r => s.length - r) (fun r => [(12, .int .i64 (r : Int))]) (fun r => [(⟨false, b41, n, encs (List.replicate (n - n) ([] : Str))⟩ : Ow).seg (xs.set na (List.take (i - f) (List.drop f s))) 9]) (fun r => [tAsc 1]) [12, 80, 81, 82, 83, 84, 85, 86, 87, 88, 89, 90, 91, 92, 93] (i + 1) (⟨Nat.le_refl _, by omega, rfl⟩) ⟨rfl, trivial⟩ rfl rfl ?_
      rintro r g4 hI4
      try dsimp only at hI4 ⊢
      refine c_seq <| csr <| mvi rfl <| mvs rfl <| lenT (s := s) rfl uy9 <| cmp _ rfl rfl rfl <| mvb rfl <| jsplit 84 rfl (fun h6 => ?_) (fun h6 => ?_)
      ·replace h6 := of_decide_eq_true h6
       refine g_on rfl rfl rfl <| mvs rfl <| g_on rfl rfl rfl <| mvi rfl <| g_on rfl rfl rfl <| idxT (s := s) r rfl rfl uy9 rfl (by first | omega | (simp; done) | (simp; omega) | (simp at *; omega)) <| g_on rfl rfl rfl <| ixaA ((List.getD s r 0).toNat) rfl rfl uy132 ty5.sz rfl (by have := UInt8.toNat_lt (List.getD s r 0); first | omega | (rw [asc_len]; omega)) <| g_on rfl rfl rfl <| ldvG 1 ((List.getD s r 0).toNat) (List.getD ascL ((List.getD s r 0).toNat) (0)) rfl rfl rfl (getD_some (by have := UInt8.toNat_lt (List.getD s r 0); first | omega | (rw [asc_len]; omega))) ty5 <| g_on rfl rfl rfl <| equ8 (a := (List.getD ascL ((List.getD s r 0).toNat) (0))) (b := (0 : UInt8)) _ rfl rfl rfl <| j_re 90 (.bool (decide ((List.getD s r 0) = 32))) (congrArg Value.bool (asc_ne (HS r (by omega)))) <| pkt (.bool _) rfl rfl <| jt <| c_cond rfl (fun h7 => ?_) (fun h7 => ?_)
       ·replace h7 := of_decide_eq_true h7
        refine c_skip <| e_then <| c_block <| c_reg <| mvi rfl <| addi rfl rfl rfl (by omega) <| agi rfl <| jn <| e_in ?_
        exact e_loop (r + 1) (⟨by omega, by omega, by rw [wordsL_skip (by omega) (by assumption)]; exact hI4.2.2⟩) (by show s.length - (r + 1) < s.length - r; omega) (⟨rfl, trivial⟩) rfl rfl rfl
       ·replace h7 := of_decide_eq_false h7
        refine c_exit rfl <| e_then ?_
        have HRC : r < s.length → (List.getD s r 0) ≠ 32 := (fun hp => by first | omega | (simp_all; done) | assumption)
        refine c_reg <| mvi rfl <| agi rfl <| jn <| e_in ?_
        exact e_lp (r, r, na + 1, xs.set na (List.take (i - f) (List.drop f s))) (by repeat (first | exact out_self | refine out_hav (by kernel_rfl) ?_ | refine out_look (by kernel_rfl) ?_)) (FI.word hI3 (by omega) (by assumption) (by omega) hI4.2.2 HRC) (by show s.length - r < s.length - i; omega) (⟨rfl, rfl, rfl, trivial⟩) rfl rfl rfl
      ·replace h6 := of_decide_eq_false h6
       refine g_off rfl rfl rfl rfl <| g_off rfl rfl rfl rfl <| g_off rfl rfl rfl rfl <| g_off rfl rfl rfl rfl <| g_off rfl rfl rfl rfl <| g_off rfl rfl rfl rfl <| pkf (.bool _) rfl rfl <| jt <| c_false rfl <| c_exit rfl <| e_then ?_
       have HRC : r < s.length → (List.getD s r 0) ≠ 32 := (fun hp => by first | omega | (simp_all; done) | assumption)
       refine c_reg <| mvi rfl <| agi rfl <| jn <| e_in ?_
       exact e_lp (r, r, na + 1, xs.set na (List.take (i - f) (List.drop f s))) (by repeat (first | exact out_self | refine out_hav (by kernel_rfl) ?_ | refine out_look (by kernel_rfl) ?_)) (FI.word hI3 (by omega) (by assumption) (by omega) hI4.2.2 HRC) (by show s.length - r < s.length - i; omega) (⟨rfl, rfl, rfl, trivial⟩) rfl rfl rfl
    ·replace h4 := of_decide_eq_false h4
     refine c_exit rfl <| e_then <| c_seq <| csr <| mvi rfl <| mvs rfl <| lenT (s := s) rfl uy9 <| cmp _ rfl rfl rfl <| jt <| c_cond rfl (fun h8 => ?_) (fun h8 => ?_)
     ·replace h8 := of_decide_eq_true h8
      have HLT := FI.lt hI3 (by omega)
      refine c_reg <| mvl rfl <| mvi rfl <| mvs rfl <| mvi rfl <| cutT (s := s) f s.length rfl uy9 ⟨_, rfl⟩ rfl (by first | omega | (simp; done) | (simp; omega)) (by first | omega | (simp; done) | (simp; omega)) (List.drop f s) (cut_hi _ _) <| ixs (((⟨false, b41, n, encs (List.replicate (n - n) ([] : Str))⟩ : Ow)).vs) xs na (Ow.vs_ok hxo) rfl hxl.symm rfl uy37 ty9.sz rfl (by omega) <| sto 0 na (List.drop f s) hxo rfl rfl rfl rfl rfl (by omega) ty9 ⟨trivial, ?_⟩
      refine jsr <| mvl rfl <| agl rfl <| jt <| c_ret ?_
      have HEQ := FI.endw hI3 (by omega) (by omega)
      exact j_end (own0 := []) (ro0 := [tAsc 1]) (.inl rfl) rfl (hr1 Tryz.results41 (rvt (v := (.slice _ _ _)) rfl)) [0] [] [_] [] [] _ rfl rfl (by kernel_rfl) rfl impl_nil (⟨(⟨false, b41, n, encs (List.replicate (n - n) ([] : Str))⟩ : Ow), (by rw [← HEQ]; exact Ow.ok_set hxo na _), (by rw [← HEQ, List.length_set, hxl]), by rw [HEQ], rfl⟩)
     ·replace h8 := of_decide_eq_false h8
      refine c_skip <| e_then <| csr <| mvl rfl <| agl rfl <| jt <| c_ret ?_
      have HEQ := FI.ende hI3 (by omega)
      exact j_end (own0 := []) (ro0 := [tAsc 1]) (.inl rfl) rfl (hr1 Tryz.results41 (rvt (v := (.slice _ _ _)) rfl)) [0] [] [_] [] [] _ rfl rfl (by kernel_rfl) rfl impl_nil (⟨(⟨false, b41, n, encs (List.replicate (n - n) ([] : Str))⟩ : Ow), (by rw [← HEQ]; exact hxo), (by rw [← HEQ, hxl]), by rw [HEQ], rfl⟩)
  ·replace h2 := of_decide_eq_false h2
   refine g_off rfl rfl rfl rfl <| g_off rfl rfl rfl rfl <| g_off rfl rfl rfl rfl <| g_off rfl rfl rfl rfl <| g_off rfl rfl rfl rfl <| g_off rfl rfl rfl rfl <| pkf (.bool _) rfl rfl <| jt <| c_false rfl <| c_exit rfl <| e_then <| c_seq ?_
   have HPC : p < s.length → (List.getD s p 0) ≠ 32 := (fun hp => by first | omega | (simp_all; done) | assumption)
   refine c_reg <| mvi rfl <| agi rfl <| jt <| c_seq <| c_block <| c_loop (σ := Nat × Nat × Nat × List Str) (fun (i, f, na, xs) => FI s n i f na xs) (fun (i, f, na, xs) => s.length - i) (fun (i, f, na, xs) => [(12, .int .i64 (i : Int)), (11, .int .i64 (f : Int)), (10, .int .i64 (na : Int))]) (fun (i, f, na, xs) => [(⟨false, b41, n, encs (List.replicate (n - n) ([] : Str))⟩ : Ow).seg xs 9]) (fun (i, f, na, xs) => [tAsc 1]) [10, 11, 12, 57, 58, 59, 60, 61, 62, 63, 64, 65, 66, 67, 68, 69, 70, 71, 72, 73, 74, 75, 76, 77, 78, 79, 80, 81, 82, 83, 84, 85, 86, 87, 88, 89, 90, 91, 92, 93, 94] (p, p, 0, List.replicate n ([] : Str)) (FI.begin hI2.1 hI2.2 (by simp) HNW HPC) ⟨rfl, rfl, rfl, trivial⟩ rfl rfl ?_
   rintro ⟨i, f, na, xs⟩ g3 hI3
   try dsimp only at hI3 ⊢
   have hxl := hI3.2.2.1
   have hxo : Ow.ok (⟨false, b41, n, encs (List.replicate (n - n) ([] : Str))⟩ : Ow) xs := row_ok hxl
   have HFI := hI3.1
   have HIS := hI3.2.1
   have HNA := hI3.2.2.2.2.2.2.1
   refine c_seq <| csr <| mvi rfl <| mvs rfl <| lenT (s := s) rfl uy9 <| cmp _ rfl rfl rfl <| jt <| c_cond rfl (fun h9 => ?_) (fun h9 => ?_)
   ·replace h9 := of_decide_eq_true h9
    refine c_skip <| e_then <| c_block <| c_seq <| csr <| mvs rfl <| mvi rfl <| idxT (s := s) i rfl rfl uy9 rfl (by first | omega | (simp; done) | (simp; omega) | (simp at *; omega)) <| ixaA ((List.getD s i 0).toNat) rfl rfl uy132 ty5.sz rfl (by have := UInt8.toNat_lt (List.getD s i 0); first | omega | (rw [asc_len]; omega)) <| ldvG 1 ((List.getD s i 0).toNat) (List.getD ascL ((List.getD s i 0).toNat) (0)) rfl rfl rfl (getD_some (by have := UInt8.toNat_lt (List.getD s i 0); first | omega | (rw [asc_len]; omega))) ty5 <| equ8 (a := (List.getD ascL ((List.getD s i 0).toNat) (0))) (b := (0 : UInt8)) _ rfl rfl rfl <| j_re 66 (.bool (!decide ((List.getD s i 0) = 32))) (congrArg Value.bool (asc_eq (HS i (by omega)))) <| jt <| c_cond rfl (fun h10 => ?_) (fun h10 => ?_)
    ·replace h10 := ndt h10
     refine csr <| mvi rfl <| addi rfl rfl rfl (by omega) <| agi rfl <| jt <| c_exit rfl ?_
     exact e_lp (i + 1, f, na, xs) (by repeat (first | exact out_self | refine out_hav (by kernel_rfl) ?_ | refine out_look (by kernel_rfl) ?_)) (FI.step hI3 (by omega) (by assumption)) (by show s.length - (i + 1) < s.length - i; omega) (⟨rfl, rfl, rfl, trivial⟩) rfl rfl rfl
    ·replace h10 := ndf h10
     refine c_skip <| e_then <| c_seq ?_
     have HLT := FI.lt hI3 (by have := hI3.1; omega)
     refine c_reg <| mvl rfl <| mvi rfl <| mvs rfl <| mvi rfl <| mvi rfl <| cutT (s := s) f i rfl uy9 ⟨_, rfl⟩ ⟨_, rfl⟩ (by first | omega | (simp; done) | (simp; omega)) (by first | omega | (simp; done) | (simp; omega)) (List.take (i - f) (List.drop f s)) rfl <| ixs (((⟨false, b41, n, encs (List.replicate (n - n) ([] : Str))⟩ : Ow)).vs) xs na (Ow.vs_ok hxo) rfl hxl.symm rfl uy37 ty9.sz rfl (by omega) <| sto 0 na (List.take (i - f) (List.drop f s)) hxo rfl rfl rfl rfl rfl (by omega) ty9 ⟨trivial, ?_⟩
     refine jsr <| mvi rfl <| addi rfl rfl rfl (by omega) <| agi rfl <| jsr <| mvi rfl <| addi rfl rfl rfl (by omega) <| agi rfl <| jt <| c_seq <| c_block <| c_loop (σ := Nat) (fun r => i + 1 ≤ r ∧ r ≤ s.length ∧ wordsL s r = wordsL s (i + 1)) (fun r => s.length - r) (fun r => [(12, .int .i64 (r : Int))]) (fun r => [(⟨false, b41, n, encs (List.replicate (n - n) ([] : Str))⟩ : Ow).seg (xs.set na (List.take (i - f) (List.drop f s))) 9]) (fun r => [tAsc 1]) [12, 80, 81, 82, 83, 84, 85, 86, 87, 88, 89, 90, 91, 92, 93] (i + 1) (⟨Nat.le_refl _, by omega, rfl⟩) ⟨rfl, trivial⟩ rfl rfl ?_
     rintro r g4 hI4
     try dsimp only at hI4 ⊢
     refine c_seq <| csr <| mvi rfl <| mvs rfl <| lenT (s := s) rfl uy9 <| cmp _ rfl rfl rfl <| mvb rfl <| jsplit 84 rfl (fun h11 => ?_) (fun h11 => ?_)
     ·replace h11 := of_decide_eq_true h11
      refine g_on rfl rfl rfl <| mvs rfl <| g_on rfl rfl rfl <| mvi rfl <| g_on rfl rfl rfl <| idxT (s := s) r rfl rfl uy9 rfl (by first | omega | (simp; done) | (simp; omega) | (simp at *; omega)) <| g_on rfl rfl rfl <| ixaA ((List.getD s r 0).toNat) rfl rfl uy132 ty5.sz rfl (by have := UInt8.toNat_lt (List.getD s r 0); first | omega | (rw [asc_len]; omega)) <| g_on rfl rfl rfl <| ldvG 1 ((List.getD s r 0).toNat) (List.getD ascL ((List.getD s r 0).toNat) (0)) rfl rfl rfl (getD_some (by have := UInt8.toNat_lt (List.getD s r 0); first | omega | (rw [asc_len]; omega))) ty5 <| g_on rfl rfl rfl <| equ8 (a := (List.getD ascL ((List.getD s r 0).toNat) (0))) (b := (0 : UInt8)) _ rfl rfl rfl <| j_re 90 (.bool (decide ((List.getD s r 0) = 32))) (congrArg Value.bool (asc_ne (HS r (by omega)))) <| pkt (.bool _) rfl rfl <| jt <| c_cond rfl (fun h12 => ?_) (fun h12 => ?_)
      ·replace h12 := of_decide_eq_true h12
       refine c_skip <| e_then <| c_block <| c_reg <| mvi rfl <| addi rfl rfl rfl (by omega) <| agi rfl <| jn <| e_in ?_
       exact e_loop (r + 1) (⟨by omega, by omega, by rw [wordsL_skip (by omega) (by assumption)]; exact hI4.2.2⟩) (by show s.length - (r + 1) < s.length - r; omega) (⟨rfl, trivial⟩) rfl rfl rfl
      ·replace h12 := of_decide_eq_false h12
       refine c_exit rfl <| e_then ?_
       have HRC : r < s.length → (List.getD s r 0) ≠ 32 := (fun hp => by first | omega | (simp_all; done) | assumption)
       refine c_reg <| mvi rfl <| agi rfl <| jn <| e_in ?_
       exact e_lp (r, r, na + 1, xs.set na (List.take (i - f) (List.drop f s))) (by repeat (first | exact out_self | refine out_hav (by kernel_rfl) ?_ | refine out_look (by kernel_rfl) ?_)) (FI.word hI3 (by omega) (by assumption) (by omega) hI4.2.2 HRC) (by show s.length - r < s.length - i; omega) (⟨rfl, rfl, rfl, trivial⟩) rfl rfl rfl
     ·replace h11 := of_decide_eq_false h11
      refine g_off rfl rfl rfl rfl <| g_off rfl rfl rfl rfl <| g_off rfl rfl rfl rfl <| g_off rfl rfl rfl rfl <| g_off rfl rfl rfl rfl <| g_off rfl rfl rfl rfl <| pkf (.bool _) rfl rfl <| jt <| c_false rfl <| c_exit rfl <| e_then ?_
      have HRC : r < s.length → (List.getD s r 0) ≠ 32 := (fun hp => by first | omega | (simp_all; done) | assumption)
      refine c_reg <| mvi rfl <| agi rfl <| jn <| e_in ?_
      exact e_lp (r, r, na + 1, xs.set na (List.take (i - f) (List.drop f s))) (by repeat (first | exact out_self | refine out_hav (by kernel_rfl) ?_ | refine out_look (by kernel_rfl) ?_)) (FI.word hI3 (by omega) (by assumption) (by omega) hI4.2.2 HRC) (by show s.length - r < s.length - i; omega) (⟨rfl, rfl, rfl, trivial⟩) rfl rfl rfl
   ·replace h9 := of_decide_eq_false h9
    refine c_exit rfl <| e_then <| c_seq <| csr <| mvi rfl <| mvs rfl <| lenT (s := s) rfl uy9 <| cmp _ rfl rfl rfl <| jt <| c_cond rfl (fun h13 => ?_) (fun h13 => ?_)
    ·replace h13 := of_decide_eq_true h13
     have HLT := FI.lt hI3 (by omega)
     refine c_reg <| mvl rfl <| mvi rfl <| mvs rfl <| mvi rfl <| cutT (s := s) f s.length rfl uy9 ⟨_, rfl⟩ rfl (by first | omega | (simp; done) | (simp; omega)) (by first | omega | (simp; done) | (simp; omega)) (List.drop f s) (cut_hi _ _) <| ixs (((⟨false, b41, n, encs (List.replicate (n - n) ([] : Str))⟩ : Ow)).vs) xs na (Ow.vs_ok hxo) rfl hxl.symm rfl uy37 ty9.sz rfl (by omega) <| sto 0 na (List.drop f s) hxo rfl rfl rfl rfl rfl (by omega) ty9 ⟨trivial, ?_⟩
     refine jsr <| mvl rfl <| agl rfl <| jt <| c_ret ?_
     have HEQ := FI.endw hI3 (by omega) (by omega)
     exact j_end (own0 := []) (ro0 := [tAsc 1]) (.inl rfl) rfl (hr1 Tryz.results41 (rvt (v := (.slice _ _ _)) rfl)) [0] [] [_] [] [] _ rfl rfl (by kernel_rfl) rfl impl_nil (⟨(⟨false, b41, n, encs (List.replicate (n - n) ([] : Str))⟩ : Ow), (by rw [← HEQ]; exact Ow.ok_set hxo na _), (by rw [← HEQ, List.length_set, hxl]), by rw [HEQ], rfl⟩)
    ·replace h13 := of_decide_eq_false h13
     refine c_skip <| e_then <| csr <| mvl rfl <| agl rfl <| jt <| c_ret ?_
     have HEQ := FI.ende hI3 (by omega)
     exact j_end (own0 := []) (ro0 := [tAsc 1]) (.inl rfl) rfl (hr1 Tryz.results41 (rvt (v := (.slice _ _ _)) rfl)) [0] [] [_] [] [] _ rfl rfl (by kernel_rfl) rfl impl_nil (⟨(⟨false, b41, n, encs (List.replicate (n - n) ([] : Str))⟩ : Ow), (by rw [← HEQ]; exact hxo), (by rw [← HEQ, hxl]), by rw [HEQ], rfl⟩)
end Go.Proofs.YtakbbpahfclgnaaGreatDoor
namespace Go.Proofs.YtakbbpahfclgnaaGreatDoor
open Go Go.Proofs Go.PW
open Go.PW.Enc (enc val)
instance strZero : OfNat Str 0 := ⟨([] : Str)⟩
def kv28 : List (Str × Str) := [(([116, 111, 119, 110] : Str), ([118, 101, 114, 115, 105, 111, 110, 32, 115, 107, 105, 112, 32, 115, 116, 111, 114, 101] : Str)), (([112, 101, 114, 115, 111, 110] : Str), ([110, 97, 109, 101, 32, 115, 101, 101, 100] : Str)), (([100, 101, 118, 105, 99, 101] : Str), ([110, 97, 109, 101, 32, 100, 105, 103, 105, 116, 32, 115, 101, 101, 100] : Str)), (([114, 101, 110, 101, 119] : Str), ([110, 97, 109, 101, 32, 100, 105, 103, 105, 116, 32, 115, 101, 101, 100] : Str)), (([119, 105, 116, 104, 100, 114, 97, 119] : Str), ([110, 97, 109, 101, 32, 100, 105, 103, 105, 116] : Str)), (([115, 116, 111, 99, 107] : Str), ([110, 97, 109, 101, 32, 100, 105, 103, 105, 116, 32, 110, 117, 109, 98, 101, 114, 32, 115, 101, 101, 100] : Str)), (([119, 114, 105, 116, 101] : Str), ([110, 97, 109, 101, 32, 100, 105, 103, 105, 116, 32, 110, 97, 109, 101, 32, 100, 105, 103, 105, 116, 32, 115, 101, 101, 100, 32, 99, 111, 110, 116, 101, 110, 116] : Str)), (([114, 101, 97, 100] : Str), ([110, 117, 109, 98, 101, 114] : Str)), (([98, 101, 110, 100] : Str), ([110, 117, 109, 98, 101, 114, 32, 110, 117, 109, 98, 101, 114] : Str)), (([102, 111, 117, 110, 100] : Str), ([103, 114, 111, 117, 112, 32, 110, 97, 109, 101, 32, 100, 105, 103, 105, 116, 32, 115, 101, 101, 100] : Str)), (([99, 97, 114, 100] : Str), ([103, 114, 111, 117, 112, 32, 110, 97, 109, 101, 32, 100, 105, 103, 105, 116, 32, 110, 97, 109, 101, 32, 100, 105, 103, 105, 116, 32, 115, 101, 101, 100] : Str)), (([115, 97, 121] : Str), ([103, 114, 111, 117, 112, 32, 110, 97, 109, 101, 32, 100, 105, 103, 105, 116, 32, 99, 111, 110, 116, 101, 110, 116] : Str)), (([104, 101, 97, 114] : Str), ([110, 117, 109, 98, 101, 114, 32, 110, 97, 109, 101, 32, 100, 105, 103, 105, 116] : Str)), (([100, 114, 111, 112] : Str), ([103, 114, 111, 117, 112, 32, 110, 97, 109, 101, 32, 100, 105, 103, 105, 116, 32, 110, 97, 109, 101, 32, 100, 105, 103, 105, 116, 32, 115, 101, 101, 100] : Str)), (([102, 105, 108, 101] : Str), ([115, 101, 101, 100, 32, 110, 117, 109, 98, 101, 114] : Str)), (([112, 105, 101, 99, 101] : Str), ([110, 117, 109, 98, 101, 114, 32, 110, 117, 109, 98, 101, 114, 32, 110, 117, 109, 98, 101, 114] : Str)), (([112, 114, 111, 118, 101] : Str), ([110, 117, 109, 98, 101, 114, 32, 110, 117, 109, 98, 101, 114] : Str)), (([115, 99, 97, 114] : Str), ([110, 117, 109, 98, 101, 114, 32, 110, 117, 109, 98, 101, 114] : Str)), (([99, 104, 101, 99, 107] : Str), ([110, 117, 109, 98, 101, 114] : Str)), (([116, 114, 117, 115, 116] : Str), ([110, 97, 109, 101, 32, 100, 105, 103, 105, 116, 32, 110, 97, 109, 101] : Str)), (([99, 111, 110, 102, 105, 114, 109] : Str), ([110, 97, 109, 101, 32, 100, 105, 103, 105, 116, 32, 110, 97, 109, 101] : Str)), (([97, 99, 99, 101, 112, 116] : Str), ([110, 97, 109, 101, 32, 100, 105, 103, 105, 116, 32, 110, 97, 109, 101] : Str)), (([98, 108, 111, 99, 107] : Str), ([110, 97, 109, 101, 32, 100, 105, 103, 105, 116, 32, 110, 97, 109, 101] : Str)), (([117, 110, 98, 108, 111, 99, 107] : Str), ([110, 97, 109, 101, 32, 100, 105, 103, 105, 116, 32, 110, 97, 109, 101] : Str)), (([102, 111, 114, 103, 101, 116] : Str), ([110, 97, 109, 101, 32, 100, 105, 103, 105, 116, 32, 110, 97, 109, 101] : Str)), (([102, 97, 108, 115, 101] : Str), ([110, 97, 109, 101, 32, 100, 105, 103, 105, 116, 32, 110, 97, 109, 101, 32, 115, 101, 101, 100] : Str)), (([108, 97, 121] : Str), ([110, 97, 109, 101, 32, 100, 105, 103, 105, 116] : Str)), (([99, 111, 109, 112, 97, 99, 116] : Str), ([110, 97, 109, 101, 32, 100, 105, 103, 105, 116] : Str)), (([98, 97, 99, 107] : Str), ([110, 97, 109, 101, 32, 100, 105, 103, 105, 116, 32, 110, 117, 109, 98, 101, 114] : Str)), (([108, 111, 111, 107] : Str), ([110, 97, 109, 101, 32, 100, 105, 103, 105, 116] : Str)), (([116, 114, 101, 101] : Str), ([] : Str)), (([103, 114, 111, 119, 110] : Str), ([110, 117, 109, 98, 101, 114] : Str))]
def formsL : List Str := [[116, 111, 119, 110], [118, 107, 116], [112, 101, 114, 115, 111, 110], [112, 100], [100, 101, 118, 105, 99, 101], [112, 68, 100], [114, 101, 110, 101, 119], [112, 68, 100], [119, 105, 116, 104, 100, 114, 97, 119], [112, 68], [115, 116, 111, 99, 107], [112, 68, 110, 100], [119, 114, 105, 116, 101], [112, 68, 112, 68, 100, 99], [114, 101, 97, 100], [110], [98, 101, 110, 100], [110, 110], [102, 111, 117, 110, 100], [103, 112, 68, 100], [99, 97, 114, 100], [103, 112, 68, 112, 68, 100], [115, 97, 121], [103, 112, 68, 99], [104, 101, 97, 114], [110, 112, 68], [100, 114, 111, 112], [103, 112, 68, 112, 68, 100], [102, 105, 108, 101], [100, 110], [112, 105, 101, 99, 101], [110, 110, 110], [112, 114, 111, 118, 101], [110, 110], [115, 99, 97, 114], [110, 110], [99, 104, 101, 99, 107], [110], [116, 114, 117, 115, 116], [112, 68, 112], [99, 111, 110, 102, 105, 114, 109], [112, 68, 112], [97, 99, 99, 101, 112, 116], [112, 68, 112], [98, 108, 111, 99, 107], [112, 68, 112], [117, 110, 98, 108, 111, 99, 107], [112, 68, 112], [102, 111, 114, 103, 101, 116], [112, 68, 112], [102, 97, 108, 115, 101], [112, 68, 112, 100], [108, 97, 121], [112, 68], [99, 111, 109, 112, 97, 99, 116], [112, 68], [98, 97, 99, 107], [112, 68, 110], [108, 111, 111, 107], [112, 68], [103, 114, 111, 119, 110], [110]]
def k28 : List (Str × UInt8) := [(([118, 101, 114, 115, 105, 111, 110] : Str), 118), (([115, 107, 105, 112] : Str), 107), (([115, 116, 111, 114, 101] : Str), 116), (([110, 97, 109, 101] : Str), 112), (([103, 114, 111, 117, 112] : Str), 103), (([115, 101, 101, 100] : Str), 100), (([100, 105, 103, 105, 116] : Str), 68), (([110, 117, 109, 98, 101, 114] : Str), 110), (([99, 111, 110, 116, 101, 110, 116] : Str), 99)]
def kU28 (k : Str) : UInt8 := (mget k k28).getD 0
def findF : List Str → Str → Option Str
  | a :: b :: r, w => if w = a then some b else findF r w
  | _, _ => none
def form28 (w : Str) : Option (List UInt8) := if w = [116, 114, 101, 101] then some [] else findF formsL w
theorem findF_at : ∀ (l : List Str) (w : Str) (i : Nat), (∀ j, j < i → List.getD l (2 * j) [] ≠ w) → 2 * i + 1 < l.length → List.getD l (2 * i) [] = w → findF l w = some (List.getD l (2 * i + 1) [])
  | [], _, i, _, hl, _ => by simp at hl
  | [a], _, i, _, hl, _ => by simp at hl
  | a :: b :: r, w, 0, _, _, e => by have e' : a = w := e; rw [findF, if_pos e'.symm]; rfl
  | a :: b :: r, w, i + 1, h, hl, e => by
    have h0 : a ≠ w := h 0 (by omega)
    rw [findF, if_neg (fun x => h0 x.symm)]
    exact findF_at r w i (fun j hj => by have := h (j + 1) (by omega); exact this) (by simp at hl; omega) e
theorem findF_no : ∀ (l : List Str) (w : Str), (∀ j, 2 * j + 1 < l.length → List.getD l (2 * j) [] ≠ w) → findF l w = none
  | [], _, _ => rfl
  | [a], _, _ => rfl
  | a :: b :: r, w, h => by
    have h0 : a ≠ w := h 0 (by simp)
    rw [findF, if_neg (fun x => h0 x.symm)]
    exact findF_no r w (fun j hj => by have := h (j + 1) (by simp; omega); exact this)
def okF (p : Str → Bool) : List Str → Bool
  | _ :: b :: r => p b && okF p r
  | _ => true
theorem findF_ok {p : Str → Bool} : ∀ (l : List Str) (w k : Str), okF p l = true → findF l w = some k → p k = true
  | [], _, _, _, h => by simp [findF] at h
  | [a], _, _, _, h => by simp [findF] at h
  | a :: b :: r, w, k, ho, h => by
    rw [okF, Bool.and_eq_true] at ho
    rw [findF] at h
    split at h
    · cases h; exact ho.1
    · exact findF_ok r w k ho.2 h
def wordsF : Nat → Str → Nat → List Str
  | 0, _, _ => []
  | k + 1, s, p => if skp s p < s.length then word s (skp s p) :: wordsF k s (skp s p + wlen s (skp s p)) else []
theorem wordsF_eq : ∀ (k : Nat) (s : Str) (p : Nat), s.length - p < k → (wordsL s p).map (·.2) = wordsF k s p
  | 0, _, _, h => by omega
  | k + 1, s, p, h => by
    by_cases hc : skp s p < s.length
    · have h1 := skp_pos hc
      have h2 : p ≤ skp s p := by unfold skp; omega
      rw [wordsL_cons hc, List.map_cons, wordsF, if_pos hc, wordsF_eq k s _ (by omega)]
    · rw [wordsL_nil hc, wordsF, if_neg hc]; rfl
def knd28 (ks : List Str) : Bool := ks.all (fun k => (k28.map (·.1)).contains k) && lastC ks
def smL (c : UInt8) : Bool := decide (c = 32) || (decide (97 ≤ c.toNat) && decide (c.toNat ≤ 122))
theorem smL_at {s : Str} (h : s.all smL = true) (j : Nat) (hj : j < s.length) : smB (List.getD s j 0) := by
  have := all_at h hj
  simp only [smL, Bool.or_eq_true, Bool.and_eq_true, decide_eq_true_eq] at this
  exact this
def Shape (w sh : Str) : Prop := mget w kv28 = some sh ∧ sh.length < 60 ∧ (∀ j, j < sh.length → smB (List.getD sh j 0)) ∧ form28 w = some (((wordsL sh 0).map (·.2)).map kU28) ∧ knd28 ((wordsL sh 0).map (·.2)) = true ∧ ((wordsL sh 0).map (·.2)).length ≤ 6
theorem shp {w sh : Str} {ls : List UInt8} (h1 : mget w kv28 = some sh) (hl : decide (sh.length < 60) = true) (h2 : sh.all smL = true) (h3 : form28 w = some ls) (h4 : (wordsF 60 sh 0).map kU28 = ls) (h5 : knd28 (wordsF 60 sh 0) = true) (h6 : decide ((wordsF 60 sh 0).length ≤ 6) = true) : Shape w sh := by
  have e := wordsF_eq 60 sh 0 (by have := of_decide_eq_true hl; omega)
  refine ⟨h1, of_decide_eq_true hl, smL_at h2, ?_, ?_, ?_⟩
  · rw [e, h4]; exact h3
  · rw [e]; exact h5
  · rw [e]; exact of_decide_eq_true h6
theorem shape_cases (w : Str) : (mget w kv28 = none ∧ form28 w = none) ∨ ∃ sh, Shape w sh := by
  by_cases h0 : w = [116, 111, 119, 110]
  · subst h0; exact .inr ⟨[118, 101, 114, 115, 105, 111, 110, 32, 115, 107, 105, 112, 32, 115, 116, 111, 114, 101], shp (ls := [118, 107, 116]) (by kernel_rfl) (by kernel_rfl) (by kernel_rfl) (by kernel_rfl) (by kernel_rfl) (by kernel_rfl) (by kernel_rfl)⟩
  by_cases h1 : w = [112, 101, 114, 115, 111, 110]
  · subst h1; exact .inr ⟨[110, 97, 109, 101, 32, 115, 101, 101, 100], shp (ls := [112, 100]) (by kernel_rfl) (by kernel_rfl) (by kernel_rfl) (by kernel_rfl) (by kernel_rfl) (by kernel_rfl) (by kernel_rfl)⟩
  by_cases h2 : w = [100, 101, 118, 105, 99, 101]
  · subst h2; exact .inr ⟨[110, 97, 109, 101, 32, 100, 105, 103, 105, 116, 32, 115, 101, 101, 100], shp (ls := [112, 68, 100]) (by kernel_rfl) (by kernel_rfl) (by kernel_rfl) (by kernel_rfl) (by kernel_rfl) (by kernel_rfl) (by kernel_rfl)⟩
  by_cases h3 : w = [114, 101, 110, 101, 119]
  · subst h3; exact .inr ⟨[110, 97, 109, 101, 32, 100, 105, 103, 105, 116, 32, 115, 101, 101, 100], shp (ls := [112, 68, 100]) (by kernel_rfl) (by kernel_rfl) (by kernel_rfl) (by kernel_rfl) (by kernel_rfl) (by kernel_rfl) (by kernel_rfl)⟩
  by_cases h4 : w = [119, 105, 116, 104, 100, 114, 97, 119]
  · subst h4; exact .inr ⟨[110, 97, 109, 101, 32, 100, 105, 103, 105, 116], shp (ls := [112, 68]) (by kernel_rfl) (by kernel_rfl) (by kernel_rfl) (by kernel_rfl) (by kernel_rfl) (by kernel_rfl) (by kernel_rfl)⟩
  by_cases h5 : w = [115, 116, 111, 99, 107]
  · subst h5; exact .inr ⟨[110, 97, 109, 101, 32, 100, 105, 103, 105, 116, 32, 110, 117, 109, 98, 101, 114, 32, 115, 101, 101, 100], shp (ls := [112, 68, 110, 100]) (by kernel_rfl) (by kernel_rfl) (by kernel_rfl) (by kernel_rfl) (by kernel_rfl) (by kernel_rfl) (by kernel_rfl)⟩
  by_cases h6 : w = [119, 114, 105, 116, 101]
  · subst h6; exact .inr ⟨[110, 97, 109, 101, 32, 100, 105, 103, 105, 116, 32, 110, 97, 109, 101, 32, 100, 105, 103, 105, 116, 32, 115, 101, 101, 100, 32, 99, 111, 110, 116, 101, 110, 116], shp (ls := [112, 68, 112, 68, 100, 99]) (by kernel_rfl) (by kernel_rfl) (by kernel_rfl) (by kernel_rfl) (by kernel_rfl) (by kernel_rfl) (by kernel_rfl)⟩
  by_cases h7 : w = [114, 101, 97, 100]
  · subst h7; exact .inr ⟨[110, 117, 109, 98, 101, 114], shp (ls := [110]) (by kernel_rfl) (by kernel_rfl) (by kernel_rfl) (by kernel_rfl) (by kernel_rfl) (by kernel_rfl) (by kernel_rfl)⟩
  by_cases h8 : w = [98, 101, 110, 100]
  · subst h8; exact .inr ⟨[110, 117, 109, 98, 101, 114, 32, 110, 117, 109, 98, 101, 114], shp (ls := [110, 110]) (by kernel_rfl) (by kernel_rfl) (by kernel_rfl) (by kernel_rfl) (by kernel_rfl) (by kernel_rfl) (by kernel_rfl)⟩
  by_cases h9 : w = [102, 111, 117, 110, 100]
  · subst h9; exact .inr ⟨[103, 114, 111, 117, 112, 32, 110, 97, 109, 101, 32, 100, 105, 103, 105, 116, 32, 115, 101, 101, 100], shp (ls := [103, 112, 68, 100]) (by kernel_rfl) (by kernel_rfl) (by kernel_rfl) (by kernel_rfl) (by kernel_rfl) (by kernel_rfl) (by kernel_rfl)⟩
  by_cases h10 : w = [99, 97, 114, 100]
  · subst h10; exact .inr ⟨[103, 114, 111, 117, 112, 32, 110, 97, 109, 101, 32, 100, 105, 103, 105, 116, 32, 110, 97, 109, 101, 32, 100, 105, 103, 105, 116, 32, 115, 101, 101, 100], shp (ls := [103, 112, 68, 112, 68, 100]) (by kernel_rfl) (by kernel_rfl) (by kernel_rfl) (by kernel_rfl) (by kernel_rfl) (by kernel_rfl) (by kernel_rfl)⟩
  by_cases h11 : w = [115, 97, 121]
  · subst h11; exact .inr ⟨[103, 114, 111, 117, 112, 32, 110, 97, 109, 101, 32, 100, 105, 103, 105, 116, 32, 99, 111, 110, 116, 101, 110, 116], shp (ls := [103, 112, 68, 99]) (by kernel_rfl) (by kernel_rfl) (by kernel_rfl) (by kernel_rfl) (by kernel_rfl) (by kernel_rfl) (by kernel_rfl)⟩
  by_cases h12 : w = [104, 101, 97, 114]
  · subst h12; exact .inr ⟨[110, 117, 109, 98, 101, 114, 32, 110, 97, 109, 101, 32, 100, 105, 103, 105, 116], shp (ls := [110, 112, 68]) (by kernel_rfl) (by kernel_rfl) (by kernel_rfl) (by kernel_rfl) (by kernel_rfl) (by kernel_rfl) (by kernel_rfl)⟩
  by_cases h13 : w = [100, 114, 111, 112]
  · subst h13; exact .inr ⟨[103, 114, 111, 117, 112, 32, 110, 97, 109, 101, 32, 100, 105, 103, 105, 116, 32, 110, 97, 109, 101, 32, 100, 105, 103, 105, 116, 32, 115, 101, 101, 100], shp (ls := [103, 112, 68, 112, 68, 100]) (by kernel_rfl) (by kernel_rfl) (by kernel_rfl) (by kernel_rfl) (by kernel_rfl) (by kernel_rfl) (by kernel_rfl)⟩
  by_cases h14 : w = [102, 105, 108, 101]
  · subst h14; exact .inr ⟨[115, 101, 101, 100, 32, 110, 117, 109, 98, 101, 114], shp (ls := [100, 110]) (by kernel_rfl) (by kernel_rfl) (by kernel_rfl) (by kernel_rfl) (by kernel_rfl) (by kernel_rfl) (by kernel_rfl)⟩
  by_cases h15 : w = [112, 105, 101, 99, 101]
  · subst h15; exact .inr ⟨[110, 117, 109, 98, 101, 114, 32, 110, 117, 109, 98, 101, 114, 32, 110, 117, 109, 98, 101, 114], shp (ls := [110, 110, 110]) (by kernel_rfl) (by kernel_rfl) (by kernel_rfl) (by kernel_rfl) (by kernel_rfl) (by kernel_rfl) (by kernel_rfl)⟩
  by_cases h16 : w = [112, 114, 111, 118, 101]
  · subst h16; exact .inr ⟨[110, 117, 109, 98, 101, 114, 32, 110, 117, 109, 98, 101, 114], shp (ls := [110, 110]) (by kernel_rfl) (by kernel_rfl) (by kernel_rfl) (by kernel_rfl) (by kernel_rfl) (by kernel_rfl) (by kernel_rfl)⟩
  by_cases h17 : w = [115, 99, 97, 114]
  · subst h17; exact .inr ⟨[110, 117, 109, 98, 101, 114, 32, 110, 117, 109, 98, 101, 114], shp (ls := [110, 110]) (by kernel_rfl) (by kernel_rfl) (by kernel_rfl) (by kernel_rfl) (by kernel_rfl) (by kernel_rfl) (by kernel_rfl)⟩
  by_cases h18 : w = [99, 104, 101, 99, 107]
  · subst h18; exact .inr ⟨[110, 117, 109, 98, 101, 114], shp (ls := [110]) (by kernel_rfl) (by kernel_rfl) (by kernel_rfl) (by kernel_rfl) (by kernel_rfl) (by kernel_rfl) (by kernel_rfl)⟩
  by_cases h19 : w = [116, 114, 117, 115, 116]
  · subst h19; exact .inr ⟨[110, 97, 109, 101, 32, 100, 105, 103, 105, 116, 32, 110, 97, 109, 101], shp (ls := [112, 68, 112]) (by kernel_rfl) (by kernel_rfl) (by kernel_rfl) (by kernel_rfl) (by kernel_rfl) (by kernel_rfl) (by kernel_rfl)⟩
  by_cases h20 : w = [99, 111, 110, 102, 105, 114, 109]
  · subst h20; exact .inr ⟨[110, 97, 109, 101, 32, 100, 105, 103, 105, 116, 32, 110, 97, 109, 101], shp (ls := [112, 68, 112]) (by kernel_rfl) (by kernel_rfl) (by kernel_rfl) (by kernel_rfl) (by kernel_rfl) (by kernel_rfl) (by kernel_rfl)⟩
  by_cases h21 : w = [97, 99, 99, 101, 112, 116]
  · subst h21; exact .inr ⟨[110, 97, 109, 101, 32, 100, 105, 103, 105, 116, 32, 110, 97, 109, 101], shp (ls := [112, 68, 112]) (by kernel_rfl) (by kernel_rfl) (by kernel_rfl) (by kernel_rfl) (by kernel_rfl) (by kernel_rfl) (by kernel_rfl)⟩
  by_cases h22 : w = [98, 108, 111, 99, 107]
  · subst h22; exact .inr ⟨[110, 97, 109, 101, 32, 100, 105, 103, 105, 116, 32, 110, 97, 109, 101], shp (ls := [112, 68, 112]) (by kernel_rfl) (by kernel_rfl) (by kernel_rfl) (by kernel_rfl) (by kernel_rfl) (by kernel_rfl) (by kernel_rfl)⟩
  by_cases h23 : w = [117, 110, 98, 108, 111, 99, 107]
  · subst h23; exact .inr ⟨[110, 97, 109, 101, 32, 100, 105, 103, 105, 116, 32, 110, 97, 109, 101], shp (ls := [112, 68, 112]) (by kernel_rfl) (by kernel_rfl) (by kernel_rfl) (by kernel_rfl) (by kernel_rfl) (by kernel_rfl) (by kernel_rfl)⟩
  by_cases h24 : w = [102, 111, 114, 103, 101, 116]
  · subst h24; exact .inr ⟨[110, 97, 109, 101, 32, 100, 105, 103, 105, 116, 32, 110, 97, 109, 101], shp (ls := [112, 68, 112]) (by kernel_rfl) (by kernel_rfl) (by kernel_rfl) (by kernel_rfl) (by kernel_rfl) (by kernel_rfl) (by kernel_rfl)⟩
  by_cases h25 : w = [102, 97, 108, 115, 101]
  · subst h25; exact .inr ⟨[110, 97, 109, 101, 32, 100, 105, 103, 105, 116, 32, 110, 97, 109, 101, 32, 115, 101, 101, 100], shp (ls := [112, 68, 112, 100]) (by kernel_rfl) (by kernel_rfl) (by kernel_rfl) (by kernel_rfl) (by kernel_rfl) (by kernel_rfl) (by kernel_rfl)⟩
  by_cases h26 : w = [108, 97, 121]
  · subst h26; exact .inr ⟨[110, 97, 109, 101, 32, 100, 105, 103, 105, 116], shp (ls := [112, 68]) (by kernel_rfl) (by kernel_rfl) (by kernel_rfl) (by kernel_rfl) (by kernel_rfl) (by kernel_rfl) (by kernel_rfl)⟩
  by_cases h27 : w = [99, 111, 109, 112, 97, 99, 116]
  · subst h27; exact .inr ⟨[110, 97, 109, 101, 32, 100, 105, 103, 105, 116], shp (ls := [112, 68]) (by kernel_rfl) (by kernel_rfl) (by kernel_rfl) (by kernel_rfl) (by kernel_rfl) (by kernel_rfl) (by kernel_rfl)⟩
  by_cases h28 : w = [98, 97, 99, 107]
  · subst h28; exact .inr ⟨[110, 97, 109, 101, 32, 100, 105, 103, 105, 116, 32, 110, 117, 109, 98, 101, 114], shp (ls := [112, 68, 110]) (by kernel_rfl) (by kernel_rfl) (by kernel_rfl) (by kernel_rfl) (by kernel_rfl) (by kernel_rfl) (by kernel_rfl)⟩
  by_cases h29 : w = [108, 111, 111, 107]
  · subst h29; exact .inr ⟨[110, 97, 109, 101, 32, 100, 105, 103, 105, 116], shp (ls := [112, 68]) (by kernel_rfl) (by kernel_rfl) (by kernel_rfl) (by kernel_rfl) (by kernel_rfl) (by kernel_rfl) (by kernel_rfl)⟩
  by_cases h30 : w = [116, 114, 101, 101]
  · subst h30; exact .inr ⟨[], shp (ls := []) (by kernel_rfl) (by kernel_rfl) (by kernel_rfl) (by kernel_rfl) (by kernel_rfl) (by kernel_rfl) (by kernel_rfl)⟩
  by_cases h31 : w = [103, 114, 111, 119, 110]
  · subst h31; exact .inr ⟨[110, 117, 109, 98, 101, 114], shp (ls := [110]) (by kernel_rfl) (by kernel_rfl) (by kernel_rfl) (by kernel_rfl) (by kernel_rfl) (by kernel_rfl) (by kernel_rfl)⟩
  refine .inl ⟨?_, ?_⟩
  · simp [mget, fnd, kv28, h0, h1, h2, h3, h4, h5, h6, h7, h8, h9, h10, h11, h12, h13, h14, h15, h16, h17, h18, h19, h20, h21, h22, h23, h24, h25, h26, h27, h28, h29, h30, h31]
  · simp [form28, findF, formsL, h0, h1, h2, h3, h4, h5, h6, h7, h8, h9, h10, h11, h12, h13, h14, h15, h16, h17, h18, h19, h20, h21, h22, h23, h24, h25, h26, h27, h28, h29, h30, h31]
theorem forms_none {w : Str} (h : (form28 w).isSome = false) : form28 w = none := by
  cases hf : form28 w with
  | none => rfl
  | some k => rw [hf] at h; cases h
def lets28 : List UInt8 := [118, 107, 116, 110, 112, 103, 68, 100, 99]
theorem form28_ok {w : Str} {k : List UInt8} (h : form28 w = some k) : k.length ≤ 6 ∧ ∀ x ∈ k, x ∈ lets28 := by
  unfold form28 at h
  split at h
  · cases h; exact ⟨by decide, fun x hx => by cases hx⟩
  · have := findF_ok (p := fun k => decide (k.length ≤ 6) && k.all fun x => lets28.contains x) formsL w k (by kernel_rfl) h
    rw [Bool.and_eq_true, List.all_eq_true] at this
    exact ⟨of_decide_eq_true this.1, fun x hx => by simpa using this.2 x hx⟩
theorem form28_some {w : Str} (h : (form28 w).isSome = true) : form28 w = some ((form28 w).getD []) ∧ ((form28 w).getD []).length ≤ 6 ∧ ∀ x ∈ (form28 w).getD [], x ∈ lets28 := by
  cases hf : form28 w with
  | none => rw [hf] at h; cases h
  | some k => exact ⟨rfl, form28_ok hf⟩
theorem known_ne {w : Str} (h : ¬ w = [116, 114, 101, 101]) : (!decide ((form28 w).getD [] = [])) = (form28 w).isSome := by
  unfold form28
  rw [if_neg h]
  cases hf : findF formsL w with
  | none => rfl
  | some k =>
    have := findF_ok (p := fun k => !k.isEmpty) formsL w k (by kernel_rfl) hf
    show (!decide (k = [])) = true
    cases k with
    | nil => cases this
    | cons a r => rfl
theorem getD_findF (w : Str) : (form28 w).getD [] = (findF formsL w).getD [] := by
  unfold form28
  by_cases h : w = [116, 114, 101, 101]
  · rw [if_pos h, h]; kernel_rfl
  · rw [if_neg h]
theorem shapes_ct  : Ct Tryz.prog 40 [] [] [] (fun v o r => ∃ m : Nat, v = .map (some m) ∧ o = [[(m, .pred (isMap kv28))]] ∧ r = []) := by
 refine ct_enter Tryz.func40 rfl Tryz.ntmps40 (by kernel_rfl) rfl fun w0 => ?_
 refine csr <| asg (.map _) rfl <| jsr <| mkm (α := Str) (β := Str) fun m1 => ⟨trivial, ?_⟩
 refine ins 0 _ ([116, 111, 119, 110] : Str) ([118, 101, 114, 115, 105, 111, 110, 32, 115, 107, 105, 112, 32, 115, 116, 111, 114, 101] : Str) rfl rfl rfl rfl rfl uy99 key9 rfl (by kernel_rfl) ⟨trivial, ?_⟩
 refine j_nf (own' := [_]) rfl <| ins 0 _ ([112, 101, 114, 115, 111, 110] : Str) ([110, 97, 109, 101, 32, 115, 101, 101, 100] : Str) rfl rfl rfl rfl rfl uy99 key9 rfl (by kernel_rfl) ⟨trivial, ?_⟩
 refine j_nf (own' := [_]) rfl <| ins 0 _ ([100, 101, 118, 105, 99, 101] : Str) ([110, 97, 109, 101, 32, 100, 105, 103, 105, 116, 32, 115, 101, 101, 100] : Str) rfl rfl rfl rfl rfl uy99 key9 rfl (by kernel_rfl) ⟨trivial, ?_⟩
 refine j_nf (own' := [_]) rfl <| ins 0 _ ([114, 101, 110, 101, 119] : Str) ([110, 97, 109, 101, 32, 100, 105, 103, 105, 116, 32, 115, 101, 101, 100] : Str) rfl rfl rfl rfl rfl uy99 key9 rfl (by kernel_rfl) ⟨trivial, ?_⟩
 refine j_nf (own' := [_]) rfl <| ins 0 _ ([119, 105, 116, 104, 100, 114, 97, 119] : Str) ([110, 97, 109, 101, 32, 100, 105, 103, 105, 116] : Str) rfl rfl rfl rfl rfl uy99 key9 rfl (by kernel_rfl) ⟨trivial, ?_⟩
 refine j_nf (own' := [_]) rfl <| ins 0 _ ([115, 116, 111, 99, 107] : Str) ([110, 97, 109, 101, 32, 100, 105, 103, 105, 116, 32, 110, 117, 109, 98, 101, 114, 32, 115, 101, 101, 100] : Str) rfl rfl rfl rfl rfl uy99 key9 rfl (by kernel_rfl) ⟨trivial, ?_⟩
 refine j_nf (own' := [_]) rfl <| ins 0 _ ([119, 114, 105, 116, 101] : Str) ([110, 97, 109, 101, 32, 100, 105, 103, 105, 116, 32, 110, 97, 109, 101, 32, 100, 105, 103, 105, 116, 32, 115, 101, 101, 100, 32, 99, 111, 110, 116, 101, 110, 116] : Str) rfl rfl rfl rfl rfl uy99 key9 rfl (by kernel_rfl) ⟨trivial, ?_⟩
 refine j_nf (own' := [_]) rfl <| ins 0 _ ([114, 101, 97, 100] : Str) ([110, 117, 109, 98, 101, 114] : Str) rfl rfl rfl rfl rfl uy99 key9 rfl (by kernel_rfl) ⟨trivial, ?_⟩
 refine j_nf (own' := [_]) rfl <| ins 0 _ ([98, 101, 110, 100] : Str) ([110, 117, 109, 98, 101, 114, 32, 110, 117, 109, 98, 101, 114] : Str) rfl rfl rfl rfl rfl uy99 key9 rfl (by kernel_rfl) ⟨trivial, ?_⟩
 refine j_nf (own' := [_]) rfl <| ins 0 _ ([102, 111, 117, 110, 100] : Str) ([103, 114, 111, 117, 112, 32, 110, 97, 109, 101, 32, 100, 105, 103, 105, 116, 32, 115, 101, 101, 100] : Str) rfl rfl rfl rfl rfl uy99 key9 rfl (by kernel_rfl) ⟨trivial, ?_⟩
 refine j_nf (own' := [_]) rfl <| ins 0 _ ([99, 97, 114, 100] : Str) ([103, 114, 111, 117, 112, 32, 110, 97, 109, 101, 32, 100, 105, 103, 105, 116, 32, 110, 97, 109, 101, 32, 100, 105, 103, 105, 116, 32, 115, 101, 101, 100] : Str) rfl rfl rfl rfl rfl uy99 key9 rfl (by kernel_rfl) ⟨trivial, ?_⟩
 refine j_nf (own' := [_]) rfl <| ins 0 _ ([115, 97, 121] : Str) ([103, 114, 111, 117, 112, 32, 110, 97, 109, 101, 32, 100, 105, 103, 105, 116, 32, 99, 111, 110, 116, 101, 110, 116] : Str) rfl rfl rfl rfl rfl uy99 key9 rfl (by kernel_rfl) ⟨trivial, ?_⟩
 refine j_nf (own' := [_]) rfl <| ins 0 _ ([104, 101, 97, 114] : Str) ([110, 117, 109, 98, 101, 114, 32, 110, 97, 109, 101, 32, 100, 105, 103, 105, 116] : Str) rfl rfl rfl rfl rfl uy99 key9 rfl (by kernel_rfl) ⟨trivial, ?_⟩
 refine j_nf (own' := [_]) rfl <| ins 0 _ ([100, 114, 111, 112] : Str) ([103, 114, 111, 117, 112, 32, 110, 97, 109, 101, 32, 100, 105, 103, 105, 116, 32, 110, 97, 109, 101, 32, 100, 105, 103, 105, 116, 32, 115, 101, 101, 100] : Str) rfl rfl rfl rfl rfl uy99 key9 rfl (by kernel_rfl) ⟨trivial, ?_⟩
 refine j_nf (own' := [_]) rfl <| ins 0 _ ([102, 105, 108, 101] : Str) ([115, 101, 101, 100, 32, 110, 117, 109, 98, 101, 114] : Str) rfl rfl rfl rfl rfl uy99 key9 rfl (by kernel_rfl) ⟨trivial, ?_⟩
 refine j_nf (own' := [_]) rfl <| ins 0 _ ([112, 105, 101, 99, 101] : Str) ([110, 117, 109, 98, 101, 114, 32, 110, 117, 109, 98, 101, 114, 32, 110, 117, 109, 98, 101, 114] : Str) rfl rfl rfl rfl rfl uy99 key9 rfl (by kernel_rfl) ⟨trivial, ?_⟩
 refine j_nf (own' := [_]) rfl <| ins 0 _ ([112, 114, 111, 118, 101] : Str) ([110, 117, 109, 98, 101, 114, 32, 110, 117, 109, 98, 101, 114] : Str) rfl rfl rfl rfl rfl uy99 key9 rfl (by kernel_rfl) ⟨trivial, ?_⟩
 refine j_nf (own' := [_]) rfl <| ins 0 _ ([115, 99, 97, 114] : Str) ([110, 117, 109, 98, 101, 114, 32, 110, 117, 109, 98, 101, 114] : Str) rfl rfl rfl rfl rfl uy99 key9 rfl (by kernel_rfl) ⟨trivial, ?_⟩
 refine j_nf (own' := [_]) rfl <| ins 0 _ ([99, 104, 101, 99, 107] : Str) ([110, 117, 109, 98, 101, 114] : Str) rfl rfl rfl rfl rfl uy99 key9 rfl (by kernel_rfl) ⟨trivial, ?_⟩
 refine j_nf (own' := [_]) rfl <| ins 0 _ ([116, 114, 117, 115, 116] : Str) ([110, 97, 109, 101, 32, 100, 105, 103, 105, 116, 32, 110, 97, 109, 101] : Str) rfl rfl rfl rfl rfl uy99 key9 rfl (by kernel_rfl) ⟨trivial, ?_⟩
 refine j_nf (own' := [_]) rfl <| ins 0 _ ([99, 111, 110, 102, 105, 114, 109] : Str) ([110, 97, 109, 101, 32, 100, 105, 103, 105, 116, 32, 110, 97, 109, 101] : Str) rfl rfl rfl rfl rfl uy99 key9 rfl (by kernel_rfl) ⟨trivial, ?_⟩
 refine j_nf (own' := [_]) rfl <| ins 0 _ ([97, 99, 99, 101, 112, 116] : Str) ([110, 97, 109, 101, 32, 100, 105, 103, 105, 116, 32, 110, 97, 109, 101] : Str) rfl rfl rfl rfl rfl uy99 key9 rfl (by kernel_rfl) ⟨trivial, ?_⟩
 refine j_nf (own' := [_]) rfl <| ins 0 _ ([98, 108, 111, 99, 107] : Str) ([110, 97, 109, 101, 32, 100, 105, 103, 105, 116, 32, 110, 97, 109, 101] : Str) rfl rfl rfl rfl rfl uy99 key9 rfl (by kernel_rfl) ⟨trivial, ?_⟩
 refine j_nf (own' := [_]) rfl <| ins 0 _ ([117, 110, 98, 108, 111, 99, 107] : Str) ([110, 97, 109, 101, 32, 100, 105, 103, 105, 116, 32, 110, 97, 109, 101] : Str) rfl rfl rfl rfl rfl uy99 key9 rfl (by kernel_rfl) ⟨trivial, ?_⟩
 refine j_nf (own' := [_]) rfl <| ins 0 _ ([102, 111, 114, 103, 101, 116] : Str) ([110, 97, 109, 101, 32, 100, 105, 103, 105, 116, 32, 110, 97, 109, 101] : Str) rfl rfl rfl rfl rfl uy99 key9 rfl (by kernel_rfl) ⟨trivial, ?_⟩
 refine j_nf (own' := [_]) rfl <| ins 0 _ ([102, 97, 108, 115, 101] : Str) ([110, 97, 109, 101, 32, 100, 105, 103, 105, 116, 32, 110, 97, 109, 101, 32, 115, 101, 101, 100] : Str) rfl rfl rfl rfl rfl uy99 key9 rfl (by kernel_rfl) ⟨trivial, ?_⟩
 refine j_nf (own' := [_]) rfl <| ins 0 _ ([108, 97, 121] : Str) ([110, 97, 109, 101, 32, 100, 105, 103, 105, 116] : Str) rfl rfl rfl rfl rfl uy99 key9 rfl (by kernel_rfl) ⟨trivial, ?_⟩
 refine j_nf (own' := [_]) rfl <| ins 0 _ ([99, 111, 109, 112, 97, 99, 116] : Str) ([110, 97, 109, 101, 32, 100, 105, 103, 105, 116] : Str) rfl rfl rfl rfl rfl uy99 key9 rfl (by kernel_rfl) ⟨trivial, ?_⟩
 refine j_nf (own' := [_]) rfl <| ins 0 _ ([98, 97, 99, 107] : Str) ([110, 97, 109, 101, 32, 100, 105, 103, 105, 116, 32, 110, 117, 109, 98, 101, 114] : Str) rfl rfl rfl rfl rfl uy99 key9 rfl (by kernel_rfl) ⟨trivial, ?_⟩
 refine j_nf (own' := [_]) rfl <| ins 0 _ ([108, 111, 111, 107] : Str) ([110, 97, 109, 101, 32, 100, 105, 103, 105, 116] : Str) rfl rfl rfl rfl rfl uy99 key9 rfl (by kernel_rfl) ⟨trivial, ?_⟩
 refine j_nf (own' := [_]) rfl <| ins 0 _ ([116, 114, 101, 101] : Str) ([] : Str) rfl rfl rfl rfl rfl uy99 key9 rfl (by kernel_rfl) ⟨trivial, ?_⟩
 refine j_nf (own' := [_]) rfl <| ins 0 _ ([103, 114, 111, 119, 110] : Str) ([110, 117, 109, 98, 101, 114] : Str) rfl rfl rfl rfl rfl uy99 key9 rfl (by kernel_rfl) ⟨trivial, ?_⟩
 refine j_nf (own' := [_]) rfl <| mv (.map _) rfl <| asg (.map _) rfl <| jt <| c_ret ?_
 exact j_end (own0 := []) (ro0 := []) (.inl rfl) rfl (hr1 Tryz.results40 (rvt (v := (.map _)) rfl)) [0] [] [_] [] [] _ rfl rfl (by kernel_rfl) rfl impl_nil (⟨_, rfl, rfl, rfl⟩)
end Go.Proofs.YtakbbpahfclgnaaGreatDoor
namespace Go.Proofs.YtakbbpahfclgnaaGreatDoor
open Go Go.Proofs Go.PW
open Go.PW.Enc (enc val)
theorem z144 : Zt Tryz.prog 144 (.agg ⟨cat [pt (zarr : (Arr Str 2))]⟩) := by unfold Zt; kernel_rfl
theorem ty144 : Ty Tryz.prog 144 2 true := ⟨by kernel_rfl, by kernel_rfl⟩
theorem forms_len : formsL.length = 62 := by kernel_rfl
theorem Letters_ct (w : Str) (n : Int) (h0 : 0 < w.length) (hw : w.length ≤ 140737488351232) : Ct Tryz.prog 77 [strV w, .int .i64 n] [] [] (fun v o r => v = .bool (w.all lowB && decide ((w.length : Int) ≤ n)) ∧ o = [] ∧ r = []) := by
 refine ct_enter Tryz.func77 rfl Tryz.ntmps77 (by kernel_rfl) rfl fun w0 => ?_
 refine csr <| agb rfl <| jt <| c_seq <| csr <| agi rfl <| jt <| c_block <| c_loop (σ := Nat) (fun i => i ≤ w.length ∧ ∀ j, j < i → lowB (List.getD w j 0) = true) (fun i => w.length - i) (fun i => [(5, .int .i64 (i : Int))]) (fun i => []) (fun i => []) [4, 5, 6, 7, 8, 9, 10, 11, 12, 13, 14, 15, 16, 17, 18, 19, 20, 21] 0 (⟨by omega, fun j hj => by omega⟩) ⟨rfl, trivial⟩ rfl rfl ?_
 rintro i g1 hI1
 try dsimp only at hI1 ⊢
 refine c_seq <| csr <| mvi rfl <| mvs rfl <| lenT (s := w) rfl uy9 <| cmp _ rfl rfl rfl <| jt <| c_cond rfl (fun h1 => ?_) (fun h1 => ?_)
 ·replace h1 := of_decide_eq_true h1
  refine c_skip <| e_then <| c_seq <| c_block <| csr <| mvs rfl <| mvi rfl <| idxT (s := w) i rfl rfl uy9 rfl (by first | omega | (simp; done) | (simp; omega) | (simp at *; omega)) <| cmp _ rfl rfl rfl <| mvb rfl <| jsplit 16 rfl (fun h2 => ?_) (fun h2 => ?_)
  ·replace h2 := of_decide_eq_true h2
   refine g_off rfl rfl rfl rfl <| g_off rfl rfl rfl rfl <| g_off rfl rfl rfl rfl <| g_off rfl rfl rfl rfl <| pkt (.bool _) rfl rfl <| jt <| c_true rfl <| csr <| agb rfl <| jt <| c_ret ?_
   exact j_z (own0 := []) (ro0 := []) (.inl rfl) rfl (hr1 Tryz.results77 (rvt (v := (.bool _)) rfl)) rfl (⟨congrArg Value.bool (by rw [all_no (p := lowB) (i := i) (by omega) (by simp only [lowB, Bool.and_eq_false_iff, decide_eq_false_iff_not]; omega)]; rfl), rfl, rfl⟩)
  ·replace h2 := of_decide_eq_false h2
   refine g_on rfl rfl rfl <| mvs rfl <| g_on rfl rfl rfl <| mvi rfl <| g_on rfl rfl rfl <| idxT (s := w) i rfl rfl uy9 rfl (by first | omega | (simp; done) | (simp; omega) | (simp at *; omega)) <| g_on rfl rfl rfl <| cmp _ rfl rfl rfl <| pkf (.bool _) rfl rfl <| jt <| c_cond rfl (fun h3 => ?_) (fun h3 => ?_)
   ·replace h3 := of_decide_eq_true h3
    refine csr <| agb rfl <| jt <| c_ret ?_
    exact j_z (own0 := []) (ro0 := []) (.inl rfl) rfl (hr1 Tryz.results77 (rvt (v := (.bool _)) rfl)) rfl (⟨congrArg Value.bool (by rw [all_no (p := lowB) (i := i) (by omega) (by simp only [lowB, Bool.and_eq_false_iff, decide_eq_false_iff_not]; omega)]; rfl), rfl, rfl⟩)
   ·replace h3 := of_decide_eq_false h3
    refine c_skip <| e_in <| e_then <| c_reg <| mvi rfl <| addi rfl rfl rfl (by omega) <| agi rfl <| jn ?_
    exact e_loop (i + 1) (⟨by omega, fun j hj => by rcases Nat.lt_or_ge j i with h | h; exact hI1.2 j h; rw [show j = i by omega]; simp only [lowB, Bool.and_eq_true, decide_eq_true_eq]; omega⟩) (by show w.length - (i + 1) < w.length - i; omega) (⟨rfl, trivial⟩) rfl rfl rfl
 ·replace h1 := of_decide_eq_false h1
  refine c_exit rfl <| e_then <| csr <| mvs rfl <| lenT (s := w) rfl uy9 <| cmp _ rfl rfl rfl <| mvb rfl <| jsplit 25 rfl (fun h4 => ?_) (fun h4 => ?_)
  ·replace h4 := of_decide_eq_true h4
   refine g_on rfl rfl rfl <| mvs rfl <| g_on rfl rfl rfl <| lenT (s := w) rfl uy9 <| g_on rfl rfl rfl <| mvi rfl <| g_on rfl rfl rfl <| cmp _ rfl rfl rfl <| pkt (.bool _) rfl rfl <| agb rfl <| jt <| c_ret ?_
   exact j_z (own0 := []) (ro0 := []) (.inl rfl) rfl (hr1 Tryz.results77 (rvt (v := (.bool _)) rfl)) rfl (⟨congrArg Value.bool (by rw [all_yes (p := lowB) (w := w) (fun j hj => hI1.2 j (by omega))]; first | rfl | (exfalso; omega) | (rw [Bool.true_and]) | (simp; omega) | simp_all), rfl, rfl⟩)
  ·replace h4 := of_decide_eq_false h4
   refine g_off rfl rfl rfl rfl <| g_off rfl rfl rfl rfl <| g_off rfl rfl rfl rfl <| g_off rfl rfl rfl rfl <| pkf (.bool _) rfl rfl <| agb rfl <| jt <| c_ret ?_
   exact j_z (own0 := []) (ro0 := []) (.inl rfl) rfl (hr1 Tryz.results77 (rvt (v := (.bool _)) rfl)) rfl (⟨congrArg Value.bool (by rw [all_yes (p := lowB) (w := w) (fun j hj => hI1.2 j (by omega))]; first | rfl | (exfalso; omega) | (rw [Bool.true_and]) | (simp; omega) | simp_all), rfl, rfl⟩)
theorem rseed_ct (w : Str) (h0 : 0 < w.length) (hw : w.length ≤ 140737488351232) : Ct Tryz.prog 78 [strV w] [] [] (fun v o r => v = .bool (fit28 100 w) ∧ o = [] ∧ r = []) := by
 refine ct_enter Tryz.func78 rfl Tryz.ntmps78 (by kernel_rfl) rfl fun w0 => ?_
 refine csr <| agb rfl <| jt <| c_seq <| csr <| agi rfl <| jt <| c_block <| c_loop (σ := Nat) (fun i => i ≤ w.length ∧ ∀ j, j < i → seedB (List.getD w j 0) = true) (fun i => w.length - i) (fun i => [(3, .int .i64 (i : Int))]) (fun i => []) (fun i => []) [2, 3, 4, 5, 6, 7, 8, 9, 10, 11, 12, 13, 14, 15, 16, 17, 18, 19, 20, 21, 22, 23, 24, 25, 26, 27, 28, 29, 30, 31, 32, 33] 0 (⟨by omega, fun j hj => by omega⟩) ⟨rfl, trivial⟩ rfl rfl ?_
 rintro i g1 hI1
 try dsimp only at hI1 ⊢
 refine c_seq <| csr <| mvi rfl <| mvs rfl <| lenT (s := w) rfl uy9 <| cmp _ rfl rfl rfl <| jt <| c_cond rfl (fun h1 => ?_) (fun h1 => ?_)
 ·replace h1 := of_decide_eq_true h1
  refine c_skip <| e_then <| c_seq <| c_block <| csr <| mvs rfl <| mvi rfl <| idxT (s := w) i rfl rfl uy9 rfl (by first | omega | (simp; done) | (simp; omega) | (simp at *; omega)) <| agi rfl <| jsr <| mvi rfl <| cmp _ rfl rfl rfl <| mvb rfl <| jsplit 16 rfl (fun h2 => ?_) (fun h2 => ?_)
  ·replace h2 := of_decide_eq_true h2
   refine g_on rfl rfl rfl <| mvi rfl <| g_on rfl rfl rfl <| cmp _ rfl rfl rfl <| pkt (.bool _) rfl rfl <| not_ rfl <| mvb rfl <| jsplit 21 rfl (fun h3 => ?_) (fun h3 => ?_)
   ·replace h3 := ndt h3
    refine g_on rfl rfl rfl <| mvi rfl <| g_on rfl rfl rfl <| cmp _ rfl rfl rfl <| g_on rfl rfl rfl <| mvb rfl <| jsplit 24 rfl (fun h4 => ?_) (fun h4 => ?_)
    ·replace h4 := of_decide_eq_true h4
     refine g_on rfl rfl rfl <| mvi rfl <| g_on rfl rfl rfl <| cmp _ rfl rfl rfl <| g_on rfl rfl rfl <| pkt (.bool _) rfl rfl <| g_on rfl rfl rfl <| not_ rfl <| pkt (.bool _) rfl rfl <| mvb rfl <| jsplit 30 rfl (fun h5 => ?_) (fun h5 => ?_)
     ·replace h5 := ndt h5
      refine g_on rfl rfl rfl <| mvi rfl <| g_on rfl rfl rfl <| equ8 (a := (List.getD w i 0)) (b := (45 : UInt8)) _ rfl rfl rfl <| pkt (.bool _) rfl rfl <| jt <| c_cond rfl (fun h6 => ?_) (fun h6 => ?_)
      ·replace h6 := ndt h6
       refine csr <| agb rfl <| jt <| c_ret ?_
       exact j_z (own0 := []) (ro0 := []) (.inl rfl) rfl (hr1 Tryz.results78 (rvt (v := (.bool _)) rfl)) rfl (⟨congrArg Value.bool (by show _ = (decide ((w.length : Int) ≤ 64) && w.all seedB); rw [all_no (p := seedB) (i := i) (by omega) (by simp only [seedB, lowB, digB, Bool.or_eq_false_iff, Bool.and_eq_false_iff, decide_eq_false_iff_not]; first | omega | (refine ⟨⟨?_, ?_⟩, ?_⟩ <;> first | omega | assumption | simp_all)), Bool.and_false]), rfl, rfl⟩)
      ·replace h6 := ndf h6
       refine c_skip <| e_in <| e_then <| c_reg <| mvi rfl <| addi rfl rfl rfl (by omega) <| agi rfl <| jn ?_
       exact e_loop (i + 1) (⟨by omega, fun j hj => by rcases Nat.lt_or_ge j i with h | h; exact hI1.2 j h; rw [show j = i by omega]; simp only [seedB, lowB, digB, Bool.or_eq_true, Bool.and_eq_true, decide_eq_true_eq]; first | omega | (simp_all; done) | (simp_all; omega)⟩) (by show w.length - (i + 1) < w.length - i; omega) (⟨rfl, trivial⟩) rfl rfl rfl
     ·replace h5 := ndf h5
      refine g_off rfl rfl rfl rfl <| g_off rfl rfl rfl rfl <| pkf (.bool _) rfl rfl <| jt <| c_false rfl <| c_skip <| e_in <| e_then <| c_reg <| mvi rfl <| addi rfl rfl rfl (by omega) <| agi rfl <| jn ?_
      exact e_loop (i + 1) (⟨by omega, fun j hj => by rcases Nat.lt_or_ge j i with h | h; exact hI1.2 j h; rw [show j = i by omega]; simp only [seedB, lowB, digB, Bool.or_eq_true, Bool.and_eq_true, decide_eq_true_eq]; first | omega | (simp_all; done) | (simp_all; omega)⟩) (by show w.length - (i + 1) < w.length - i; omega) (⟨rfl, trivial⟩) rfl rfl rfl
    ·replace h4 := of_decide_eq_false h4
     refine g_off rfl rfl rfl rfl <| g_off rfl rfl rfl rfl <| g_on rfl rfl rfl <| pkf (.bool _) rfl rfl <| g_on rfl rfl rfl <| not_ rfl <| pkt (.bool _) rfl rfl <| mvb rfl <| g_on rfl rfl rfl <| mvi rfl <| g_on rfl rfl rfl <| equ8 (a := (List.getD w i 0)) (b := (45 : UInt8)) _ rfl rfl rfl <| pkt (.bool _) rfl rfl <| jt <| c_cond rfl (fun h7 => ?_) (fun h7 => ?_)
     ·replace h7 := ndt h7
      refine csr <| agb rfl <| jt <| c_ret ?_
      exact j_z (own0 := []) (ro0 := []) (.inl rfl) rfl (hr1 Tryz.results78 (rvt (v := (.bool _)) rfl)) rfl (⟨congrArg Value.bool (by show _ = (decide ((w.length : Int) ≤ 64) && w.all seedB); rw [all_no (p := seedB) (i := i) (by omega) (by simp only [seedB, lowB, digB, Bool.or_eq_false_iff, Bool.and_eq_false_iff, decide_eq_false_iff_not]; first | omega | (refine ⟨⟨?_, ?_⟩, ?_⟩ <;> first | omega | assumption | simp_all)), Bool.and_false]), rfl, rfl⟩)
     ·replace h7 := ndf h7
      refine c_skip <| e_in <| e_then <| c_reg <| mvi rfl <| addi rfl rfl rfl (by omega) <| agi rfl <| jn ?_
      exact e_loop (i + 1) (⟨by omega, fun j hj => by rcases Nat.lt_or_ge j i with h | h; exact hI1.2 j h; rw [show j = i by omega]; simp only [seedB, lowB, digB, Bool.or_eq_true, Bool.and_eq_true, decide_eq_true_eq]; first | omega | (simp_all; done) | (simp_all; omega)⟩) (by show w.length - (i + 1) < w.length - i; omega) (⟨rfl, trivial⟩) rfl rfl rfl
   ·replace h3 := ndf h3
    refine g_off rfl rfl rfl rfl <| g_off rfl rfl rfl rfl <| g_off rfl rfl rfl rfl <| g_und rfl rfl rfl <| g_und rfl rfl rfl <| g_off rfl rfl rfl rfl <| g_off rfl rfl rfl rfl <| pkf (.bool _) rfl rfl <| mvb rfl <| g_off rfl rfl rfl rfl <| g_off rfl rfl rfl rfl <| pkf (.bool _) rfl rfl <| jt <| c_false rfl <| c_skip <| e_in <| e_then <| c_reg <| mvi rfl <| addi rfl rfl rfl (by omega) <| agi rfl <| jn ?_
    exact e_loop (i + 1) (⟨by omega, fun j hj => by rcases Nat.lt_or_ge j i with h | h; exact hI1.2 j h; rw [show j = i by omega]; simp only [seedB, lowB, digB, Bool.or_eq_true, Bool.and_eq_true, decide_eq_true_eq]; first | omega | (simp_all; done) | (simp_all; omega)⟩) (by show w.length - (i + 1) < w.length - i; omega) (⟨rfl, trivial⟩) rfl rfl rfl
  ·replace h2 := of_decide_eq_false h2
   refine g_off rfl rfl rfl rfl <| g_off rfl rfl rfl rfl <| pkf (.bool _) rfl rfl <| not_ rfl <| mvb rfl <| g_on rfl rfl rfl <| mvi rfl <| g_on rfl rfl rfl <| cmp _ rfl rfl rfl <| g_on rfl rfl rfl <| mvb rfl <| jsplit 24 rfl (fun h8 => ?_) (fun h8 => ?_)
   ·replace h8 := of_decide_eq_true h8
    refine g_on rfl rfl rfl <| mvi rfl <| g_on rfl rfl rfl <| cmp _ rfl rfl rfl <| g_on rfl rfl rfl <| pkt (.bool _) rfl rfl <| g_on rfl rfl rfl <| not_ rfl <| pkt (.bool _) rfl rfl <| mvb rfl <| jsplit 30 rfl (fun h9 => ?_) (fun h9 => ?_)
    ·replace h9 := ndt h9
     refine g_on rfl rfl rfl <| mvi rfl <| g_on rfl rfl rfl <| equ8 (a := (List.getD w i 0)) (b := (45 : UInt8)) _ rfl rfl rfl <| pkt (.bool _) rfl rfl <| jt <| c_cond rfl (fun h10 => ?_) (fun h10 => ?_)
     ·replace h10 := ndt h10
      refine csr <| agb rfl <| jt <| c_ret ?_
      exact j_z (own0 := []) (ro0 := []) (.inl rfl) rfl (hr1 Tryz.results78 (rvt (v := (.bool _)) rfl)) rfl (⟨congrArg Value.bool (by show _ = (decide ((w.length : Int) ≤ 64) && w.all seedB); rw [all_no (p := seedB) (i := i) (by omega) (by simp only [seedB, lowB, digB, Bool.or_eq_false_iff, Bool.and_eq_false_iff, decide_eq_false_iff_not]; first | omega | (refine ⟨⟨?_, ?_⟩, ?_⟩ <;> first | omega | assumption | simp_all)), Bool.and_false]), rfl, rfl⟩)
     ·replace h10 := ndf h10
      refine c_skip <| e_in <| e_then <| c_reg <| mvi rfl <| addi rfl rfl rfl (by omega) <| agi rfl <| jn ?_
      exact e_loop (i + 1) (⟨by omega, fun j hj => by rcases Nat.lt_or_ge j i with h | h; exact hI1.2 j h; rw [show j = i by omega]; simp only [seedB, lowB, digB, Bool.or_eq_true, Bool.and_eq_true, decide_eq_true_eq]; first | omega | (simp_all; done) | (simp_all; omega)⟩) (by show w.length - (i + 1) < w.length - i; omega) (⟨rfl, trivial⟩) rfl rfl rfl
    ·replace h9 := ndf h9
     refine g_off rfl rfl rfl rfl <| g_off rfl rfl rfl rfl <| pkf (.bool _) rfl rfl <| jt <| c_false rfl <| c_skip <| e_in <| e_then <| c_reg <| mvi rfl <| addi rfl rfl rfl (by omega) <| agi rfl <| jn ?_
     exact e_loop (i + 1) (⟨by omega, fun j hj => by rcases Nat.lt_or_ge j i with h | h; exact hI1.2 j h; rw [show j = i by omega]; simp only [seedB, lowB, digB, Bool.or_eq_true, Bool.and_eq_true, decide_eq_true_eq]; first | omega | (simp_all; done) | (simp_all; omega)⟩) (by show w.length - (i + 1) < w.length - i; omega) (⟨rfl, trivial⟩) rfl rfl rfl
   ·replace h8 := of_decide_eq_false h8
    refine g_off rfl rfl rfl rfl <| g_off rfl rfl rfl rfl <| g_on rfl rfl rfl <| pkf (.bool _) rfl rfl <| g_on rfl rfl rfl <| not_ rfl <| pkt (.bool _) rfl rfl <| mvb rfl <| g_on rfl rfl rfl <| mvi rfl <| g_on rfl rfl rfl <| equ8 (a := (List.getD w i 0)) (b := (45 : UInt8)) _ rfl rfl rfl <| pkt (.bool _) rfl rfl <| jt <| c_cond rfl (fun h11 => ?_) (fun h11 => ?_)
    ·replace h11 := ndt h11
     refine csr <| agb rfl <| jt <| c_ret ?_
     exact j_z (own0 := []) (ro0 := []) (.inl rfl) rfl (hr1 Tryz.results78 (rvt (v := (.bool _)) rfl)) rfl (⟨congrArg Value.bool (by show _ = (decide ((w.length : Int) ≤ 64) && w.all seedB); rw [all_no (p := seedB) (i := i) (by omega) (by simp only [seedB, lowB, digB, Bool.or_eq_false_iff, Bool.and_eq_false_iff, decide_eq_false_iff_not]; first | omega | (refine ⟨⟨?_, ?_⟩, ?_⟩ <;> first | omega | assumption | simp_all)), Bool.and_false]), rfl, rfl⟩)
    ·replace h11 := ndf h11
     refine c_skip <| e_in <| e_then <| c_reg <| mvi rfl <| addi rfl rfl rfl (by omega) <| agi rfl <| jn ?_
     exact e_loop (i + 1) (⟨by omega, fun j hj => by rcases Nat.lt_or_ge j i with h | h; exact hI1.2 j h; rw [show j = i by omega]; simp only [seedB, lowB, digB, Bool.or_eq_true, Bool.and_eq_true, decide_eq_true_eq]; first | omega | (simp_all; done) | (simp_all; omega)⟩) (by show w.length - (i + 1) < w.length - i; omega) (⟨rfl, trivial⟩) rfl rfl rfl
 ·replace h1 := of_decide_eq_false h1
  refine c_exit rfl <| e_then <| csr <| mvs rfl <| lenT (s := w) rfl uy9 <| cmp _ rfl rfl rfl <| mvb rfl <| jsplit 37 rfl (fun h12 => ?_) (fun h12 => ?_)
  ·replace h12 := of_decide_eq_true h12
   refine g_on rfl rfl rfl <| mvs rfl <| g_on rfl rfl rfl <| lenT (s := w) rfl uy9 <| g_on rfl rfl rfl <| cmp _ rfl rfl rfl <| pkt (.bool _) rfl rfl <| agb rfl <| jt <| c_ret ?_
   exact j_z (own0 := []) (ro0 := []) (.inl rfl) rfl (hr1 Tryz.results78 (rvt (v := (.bool _)) rfl)) rfl (⟨congrArg Value.bool (by show _ = (decide ((w.length : Int) ≤ 64) && w.all seedB); rw [all_yes (p := seedB) (w := w) (fun j hj => hI1.2 j (by omega)), Bool.and_true]; try (first | rfl | (simp; omega) | (exfalso; omega) | simp_all)), rfl, rfl⟩)
  ·replace h12 := of_decide_eq_false h12
   refine g_off rfl rfl rfl rfl <| g_off rfl rfl rfl rfl <| g_off rfl rfl rfl rfl <| pkf (.bool _) rfl rfl <| agb rfl <| jt <| c_ret ?_
   exact j_z (own0 := []) (ro0 := []) (.inl rfl) rfl (hr1 Tryz.results78 (rvt (v := (.bool _)) rfl)) rfl (⟨congrArg Value.bool (by show _ = (decide ((w.length : Int) ≤ 64) && w.all seedB); rw [all_yes (p := seedB) (w := w) (fun j hj => hI1.2 j (by omega)), Bool.and_true]; try (first | rfl | (simp; omega) | (exfalso; omega) | simp_all)), rfl, rfl⟩)
theorem r28fits_version (w : Str) (h0 : 0 < w.length) (hw : w.length ≤ 1000000) : Ct Tryz.prog 46 [strV w, .int .u8 118] [] [] (fun v o r => v = .bool (fit28 118 w) ∧ o = [] ∧ r = []) := by
 refine ct_enter Tryz.func46 rfl Tryz.ntmps46 (by kernel_rfl) rfl fun w0 => ?_
 refine csr <| agb rfl <| jsr <| mvs rfl <| cal (Number_ct w (by omega)) [] [] [] rfl rfl rfl (by kernel_rfl) impl_nil rfl ?_; rintro _ _ _ ⟨rfl, rfl, rfl⟩; refine ⟨trivial, ?_⟩
 refine agi rfl <| jt <| c_seq <| csr <| mvi rfl <| jt <| c_block <| csr <| cmp true rfl rfl rfl <| agb rfl <| jt <| c_true rfl <| csr <| mvs rfl <| scmp (a := w) (b := ([49] : Str)) _ rfl rfl uy9 rfl <| mvb rfl <| jsplit 13 rfl (fun h1 => ?_) (fun h1 => ?_)
 ·replace h1 := of_decide_eq_true h1
  refine g_off rfl rfl rfl rfl <| g_off rfl rfl rfl rfl <| pkt (.bool _) rfl rfl <| agb rfl <| jt <| c_ret ?_
  exact j_z (own0 := []) (ro0 := []) (.inl rfl) rfl (hr1 Tryz.results46 (rvt (v := (.bool _)) rfl)) rfl (⟨congrArg Value.bool (by simp only [fit28]; first | (simp_all; done) | (simp_all; intros; omega)), rfl, rfl⟩)
 ·replace h1 := of_decide_eq_false h1
  refine g_on rfl rfl rfl <| mvs rfl <| g_on rfl rfl rfl <| scmp (a := w) (b := ([50] : Str)) _ rfl rfl uy9 rfl <| pkf (.bool _) rfl rfl <| agb rfl <| jt <| c_ret ?_
  exact j_z (own0 := []) (ro0 := []) (.inl rfl) rfl (hr1 Tryz.results46 (rvt (v := (.bool _)) rfl)) rfl (⟨congrArg Value.bool (by simp only [fit28]; first | (simp_all; done) | (simp_all; intros; omega)), rfl, rfl⟩)
theorem r28fits_skip (w : Str) (h0 : 0 < w.length) (hw : w.length ≤ 1000000) : Ct Tryz.prog 46 [strV w, .int .u8 107] [] [] (fun v o r => v = .bool (fit28 107 w) ∧ o = [] ∧ r = []) := by
 refine ct_enter Tryz.func46 rfl Tryz.ntmps46 (by kernel_rfl) rfl fun w0 => ?_
 refine csr <| agb rfl <| jsr <| mvs rfl <| cal (Number_ct w (by omega)) [] [] [] rfl rfl rfl (by kernel_rfl) impl_nil rfl ?_; rintro _ _ _ ⟨rfl, rfl, rfl⟩; refine ⟨trivial, ?_⟩
 refine agi rfl <| jt <| c_seq <| csr <| mvi rfl <| jt <| c_block <| csr <| cmp false rfl rfl rfl <| agb rfl <| jt <| c_false rfl <| csr <| cmp true rfl rfl rfl <| agb rfl <| jt <| c_true rfl <| csr <| mvi rfl <| cmp _ rfl rfl rfl <| mvb rfl <| jsplit 21 rfl (fun h1 => ?_) (fun h1 => ?_)
 ·replace h1 := of_decide_eq_true h1
  refine g_on rfl rfl rfl <| mvi rfl <| g_on rfl rfl rfl <| cmp _ rfl rfl rfl <| pkt (.bool _) rfl rfl <| agb rfl <| jt <| c_ret ?_
  exact j_z (own0 := []) (ro0 := []) (.inl rfl) rfl (hr1 Tryz.results46 (rvt (v := (.bool _)) rfl)) rfl (⟨congrArg Value.bool (by show _ = (isNum w && decide ((valN 10 w : Int) ≤ 1000)); rw [← numV_le h0 1000]; first | (rw [decide_eq_true (show (0 : Int) ≤ numV w by omega)]; rfl) | (rw [decide_eq_false (show ¬ (0 : Int) ≤ numV w by omega)]; rfl)), rfl, rfl⟩)
 ·replace h1 := of_decide_eq_false h1
  refine g_off rfl rfl rfl rfl <| g_off rfl rfl rfl rfl <| pkf (.bool _) rfl rfl <| agb rfl <| jt <| c_ret ?_
  exact j_z (own0 := []) (ro0 := []) (.inl rfl) rfl (hr1 Tryz.results46 (rvt (v := (.bool _)) rfl)) rfl (⟨congrArg Value.bool (by show _ = (isNum w && decide ((valN 10 w : Int) ≤ 1000)); rw [← numV_le h0 1000]; first | (rw [decide_eq_true (show (0 : Int) ≤ numV w by omega)]; rfl) | (rw [decide_eq_false (show ¬ (0 : Int) ≤ numV w by omega)]; rfl)), rfl, rfl⟩)
theorem r28fits_store (w : Str) (h0 : 0 < w.length) (hw : w.length ≤ 1000000) : Ct Tryz.prog 46 [strV w, .int .u8 116] [] [] (fun v o r => v = .bool (fit28 116 w) ∧ o = [] ∧ r = []) := by
 refine ct_enter Tryz.func46 rfl Tryz.ntmps46 (by kernel_rfl) rfl fun w0 => ?_
 refine csr <| agb rfl <| jsr <| mvs rfl <| cal (Number_ct w (by omega)) [] [] [] rfl rfl rfl (by kernel_rfl) impl_nil rfl ?_; rintro _ _ _ ⟨rfl, rfl, rfl⟩; refine ⟨trivial, ?_⟩
 refine agi rfl <| jt <| c_seq <| csr <| mvi rfl <| jt <| c_block <| csr <| cmp false rfl rfl rfl <| agb rfl <| jt <| c_false rfl <| csr <| cmp false rfl rfl rfl <| agb rfl <| jt <| c_false rfl <| csr <| cmp true rfl rfl rfl <| agb rfl <| jt <| c_true rfl <| csr <| mvi rfl <| cmp _ rfl rfl rfl <| mvb rfl <| jsplit 29 rfl (fun h1 => ?_) (fun h1 => ?_)
 ·replace h1 := of_decide_eq_true h1
  refine g_on rfl rfl rfl <| mvi rfl <| g_on rfl rfl rfl <| cmp _ rfl rfl rfl <| pkt (.bool _) rfl rfl <| agb rfl <| jt <| c_ret ?_
  exact j_z (own0 := []) (ro0 := []) (.inl rfl) rfl (hr1 Tryz.results46 (rvt (v := (.bool _)) rfl)) rfl (⟨congrArg Value.bool (by show _ = (isNum w && decide ((valN 10 w : Int) ≤ 2000)); rw [← numV_le h0 2000]; first | (rw [decide_eq_true (show (0 : Int) ≤ numV w by omega)]; rfl) | (rw [decide_eq_false (show ¬ (0 : Int) ≤ numV w by omega)]; rfl)), rfl, rfl⟩)
 ·replace h1 := of_decide_eq_false h1
  refine g_off rfl rfl rfl rfl <| g_off rfl rfl rfl rfl <| pkf (.bool _) rfl rfl <| agb rfl <| jt <| c_ret ?_
  exact j_z (own0 := []) (ro0 := []) (.inl rfl) rfl (hr1 Tryz.results46 (rvt (v := (.bool _)) rfl)) rfl (⟨congrArg Value.bool (by show _ = (isNum w && decide ((valN 10 w : Int) ≤ 2000)); rw [← numV_le h0 2000]; first | (rw [decide_eq_true (show (0 : Int) ≤ numV w by omega)]; rfl) | (rw [decide_eq_false (show ¬ (0 : Int) ≤ numV w by omega)]; rfl)), rfl, rfl⟩)
theorem r28fits_name (w : Str) (h0 : 0 < w.length) (hw : w.length ≤ 1000000) : Ct Tryz.prog 46 [strV w, .int .u8 112] [] [] (fun v o r => v = .bool (fit28 112 w) ∧ o = [] ∧ r = []) := by
 refine ct_enter Tryz.func46 rfl Tryz.ntmps46 (by kernel_rfl) rfl fun w0 => ?_
 refine csr <| agb rfl <| jsr <| mvs rfl <| cal (Number_ct w (by omega)) [] [] [] rfl rfl rfl (by kernel_rfl) impl_nil rfl ?_; rintro _ _ _ ⟨rfl, rfl, rfl⟩; refine ⟨trivial, ?_⟩
 refine agi rfl <| jt <| c_seq <| csr <| mvi rfl <| jt <| c_block <| csr <| cmp false rfl rfl rfl <| agb rfl <| jt <| c_false rfl <| csr <| cmp false rfl rfl rfl <| agb rfl <| jt <| c_false rfl <| csr <| cmp false rfl rfl rfl <| agb rfl <| jt <| c_false rfl <| csr <| cmp true rfl rfl rfl <| agb rfl <| jt <| c_true rfl <| csr <| mvs rfl <| cal (Letters_ct w 15 h0 (by omega)) [] [] [] rfl rfl rfl (by kernel_rfl) impl_nil rfl ?_; rintro _ _ _ ⟨rfl, rfl, rfl⟩; refine ⟨trivial, ?_⟩
 refine agb rfl <| jt <| c_ret ?_
 exact j_z (own0 := []) (ro0 := []) (.inl rfl) rfl (hr1 Tryz.results46 (rvt (v := (.bool _)) rfl)) rfl (⟨rfl, rfl, rfl⟩)
theorem r28fits_group (w : Str) (h0 : 0 < w.length) (hw : w.length ≤ 1000000) : Ct Tryz.prog 46 [strV w, .int .u8 103] [] [] (fun v o r => v = .bool (fit28 103 w) ∧ o = [] ∧ r = []) := by
 refine ct_enter Tryz.func46 rfl Tryz.ntmps46 (by kernel_rfl) rfl fun w0 => ?_
 refine csr <| agb rfl <| jsr <| mvs rfl <| cal (Number_ct w (by omega)) [] [] [] rfl rfl rfl (by kernel_rfl) impl_nil rfl ?_; rintro _ _ _ ⟨rfl, rfl, rfl⟩; refine ⟨trivial, ?_⟩
 refine agi rfl <| jt <| c_seq <| csr <| mvi rfl <| jt <| c_block <| csr <| cmp false rfl rfl rfl <| agb rfl <| jt <| c_false rfl <| csr <| cmp false rfl rfl rfl <| agb rfl <| jt <| c_false rfl <| csr <| cmp false rfl rfl rfl <| agb rfl <| jt <| c_false rfl <| csr <| cmp false rfl rfl rfl <| agb rfl <| jt <| c_false rfl <| csr <| cmp true rfl rfl rfl <| agb rfl <| jt <| c_true rfl <| c_seq <| c_reg ?_
 refine mvs rfl <| cal (Letters_ct w 16 h0 (by omega)) [] [] [] rfl rfl rfl (by kernel_rfl) impl_nil rfl ?_; rintro _ _ _ ⟨rfl, rfl, rfl⟩; refine ⟨trivial, ?_⟩
 refine agb rfl <| jt <| c_ret ?_
 exact j_z (own0 := []) (ro0 := []) (.inl rfl) rfl (hr1 Tryz.results46 (rvt (v := (.bool _)) rfl)) rfl (⟨rfl, rfl, rfl⟩)
theorem r28fits_seed (w : Str) (h0 : 0 < w.length) (hw : w.length ≤ 1000000) : Ct Tryz.prog 46 [strV w, .int .u8 100] [] [] (fun v o r => v = .bool (fit28 100 w) ∧ o = [] ∧ r = []) := by
 refine ct_enter Tryz.func46 rfl Tryz.ntmps46 (by kernel_rfl) rfl fun w0 => ?_
 refine csr <| agb rfl <| jsr <| mvs rfl <| cal (Number_ct w (by omega)) [] [] [] rfl rfl rfl (by kernel_rfl) impl_nil rfl ?_; rintro _ _ _ ⟨rfl, rfl, rfl⟩; refine ⟨trivial, ?_⟩
 refine agi rfl <| jt <| c_seq <| csr <| mvi rfl <| jt <| c_block <| csr <| cmp false rfl rfl rfl <| agb rfl <| jt <| c_false rfl <| csr <| cmp false rfl rfl rfl <| agb rfl <| jt <| c_false rfl <| csr <| cmp false rfl rfl rfl <| agb rfl <| jt <| c_false rfl <| csr <| cmp false rfl rfl rfl <| agb rfl <| jt <| c_false rfl <| csr <| cmp false rfl rfl rfl <| agb rfl <| jt <| c_false rfl <| c_seq <| c_reg ?_
 refine cmp false rfl rfl rfl <| agb rfl <| jt <| c_false rfl <| csr <| cmp true rfl rfl rfl <| agb rfl <| jt <| c_true rfl <| csr <| mvs rfl <| cal (rseed_ct w h0 (by omega)) [] [] [] rfl rfl rfl (by kernel_rfl) impl_nil rfl ?_; rintro _ _ _ ⟨rfl, rfl, rfl⟩; refine ⟨trivial, ?_⟩
 refine agb rfl <| jt <| c_ret ?_
 exact j_z (own0 := []) (ro0 := []) (.inl rfl) rfl (hr1 Tryz.results46 (rvt (v := (.bool _)) rfl)) rfl (⟨rfl, rfl, rfl⟩)
theorem r28fits_digit (w : Str) (h0 : 0 < w.length) (hw : w.length ≤ 1000000) : Ct Tryz.prog 46 [strV w, .int .u8 68] [] [] (fun v o r => v = .bool (fit28 68 w) ∧ o = [] ∧ r = []) := by
 refine ct_enter Tryz.func46 rfl Tryz.ntmps46 (by kernel_rfl) rfl fun w0 => ?_
 refine csr <| agb rfl <| jsr <| mvs rfl <| cal (Number_ct w (by omega)) [] [] [] rfl rfl rfl (by kernel_rfl) impl_nil rfl ?_; rintro _ _ _ ⟨rfl, rfl, rfl⟩; refine ⟨trivial, ?_⟩
 refine agi rfl <| jt <| c_seq <| csr <| mvi rfl <| jt <| c_block <| csr <| cmp false rfl rfl rfl <| agb rfl <| jt <| c_false rfl <| csr <| cmp false rfl rfl rfl <| agb rfl <| jt <| c_false rfl <| csr <| cmp false rfl rfl rfl <| agb rfl <| jt <| c_false rfl <| csr <| cmp false rfl rfl rfl <| agb rfl <| jt <| c_false rfl <| csr <| cmp false rfl rfl rfl <| agb rfl <| jt <| c_false rfl <| c_seq <| c_reg ?_
 refine cmp true rfl rfl rfl <| agb rfl <| jt <| c_true rfl <| csr <| mvs rfl <| scmp (a := w) (b := ([49] : Str)) _ rfl rfl uy9 rfl <| mvb rfl <| jsplit 45 rfl (fun h1 => ?_) (fun h1 => ?_)
 ·replace h1 := of_decide_eq_true h1
  refine g_off rfl rfl rfl rfl <| g_off rfl rfl rfl rfl <| pkt (.bool _) rfl rfl <| mvb rfl <| g_off rfl rfl rfl rfl <| g_off rfl rfl rfl rfl <| pkt (.bool _) rfl rfl <| mvb rfl <| g_off rfl rfl rfl rfl <| g_off rfl rfl rfl rfl <| pkt (.bool _) rfl rfl <| agb rfl <| jt <| c_ret ?_
  exact j_z (own0 := []) (ro0 := []) (.inl rfl) rfl (hr1 Tryz.results46 (rvt (v := (.bool _)) rfl)) rfl (⟨congrArg Value.bool (by simp only [fit28]; first | (simp_all; done) | (simp_all; intros; omega)), rfl, rfl⟩)
 ·replace h1 := of_decide_eq_false h1
  refine g_on rfl rfl rfl <| mvs rfl <| g_on rfl rfl rfl <| scmp (a := w) (b := ([50] : Str)) _ rfl rfl uy9 rfl <| pkf (.bool _) rfl rfl <| mvb rfl <| jsplit 49 rfl (fun h2 => ?_) (fun h2 => ?_)
  ·replace h2 := of_decide_eq_true h2
   refine g_off rfl rfl rfl rfl <| g_off rfl rfl rfl rfl <| pkt (.bool _) rfl rfl <| mvb rfl <| g_off rfl rfl rfl rfl <| g_off rfl rfl rfl rfl <| pkt (.bool _) rfl rfl <| agb rfl <| jt <| c_ret ?_
   exact j_z (own0 := []) (ro0 := []) (.inl rfl) rfl (hr1 Tryz.results46 (rvt (v := (.bool _)) rfl)) rfl (⟨congrArg Value.bool (by simp only [fit28]; first | (simp_all; done) | (simp_all; intros; omega)), rfl, rfl⟩)
  ·replace h2 := of_decide_eq_false h2
   refine g_on rfl rfl rfl <| mvs rfl <| g_on rfl rfl rfl <| scmp (a := w) (b := ([51] : Str)) _ rfl rfl uy9 rfl <| pkf (.bool _) rfl rfl <| mvb rfl <| jsplit 53 rfl (fun h3 => ?_) (fun h3 => ?_)
   ·replace h3 := of_decide_eq_true h3
    refine g_off rfl rfl rfl rfl <| g_off rfl rfl rfl rfl <| pkt (.bool _) rfl rfl <| agb rfl <| jt <| c_ret ?_
    exact j_z (own0 := []) (ro0 := []) (.inl rfl) rfl (hr1 Tryz.results46 (rvt (v := (.bool _)) rfl)) rfl (⟨congrArg Value.bool (by simp only [fit28]; first | (simp_all; done) | (simp_all; intros; omega)), rfl, rfl⟩)
   ·replace h3 := of_decide_eq_false h3
    refine g_on rfl rfl rfl <| mvs rfl <| g_on rfl rfl rfl <| scmp (a := w) (b := ([52] : Str)) _ rfl rfl uy9 rfl <| pkf (.bool _) rfl rfl <| agb rfl <| jt <| c_ret ?_
    exact j_z (own0 := []) (ro0 := []) (.inl rfl) rfl (hr1 Tryz.results46 (rvt (v := (.bool _)) rfl)) rfl (⟨congrArg Value.bool (by simp only [fit28]; first | (simp_all; done) | (simp_all; intros; omega)), rfl, rfl⟩)
theorem r28fits_number (w : Str) (h0 : 0 < w.length) (hw : w.length ≤ 1000000) : Ct Tryz.prog 46 [strV w, .int .u8 110] [] [] (fun v o r => v = .bool (fit28 110 w) ∧ o = [] ∧ r = []) := by
 refine ct_enter Tryz.func46 rfl Tryz.ntmps46 (by kernel_rfl) rfl fun w0 => ?_
 refine csr <| agb rfl <| jsr <| mvs rfl <| cal (Number_ct w (by omega)) [] [] [] rfl rfl rfl (by kernel_rfl) impl_nil rfl ?_; rintro _ _ _ ⟨rfl, rfl, rfl⟩; refine ⟨trivial, ?_⟩
 refine agi rfl <| jt <| c_seq <| csr <| mvi rfl <| jt <| c_block <| csr <| cmp false rfl rfl rfl <| agb rfl <| jt <| c_false rfl <| csr <| cmp false rfl rfl rfl <| agb rfl <| jt <| c_false rfl <| csr <| cmp false rfl rfl rfl <| agb rfl <| jt <| c_false rfl <| csr <| cmp false rfl rfl rfl <| agb rfl <| jt <| c_false rfl <| csr <| cmp false rfl rfl rfl <| agb rfl <| jt <| c_false rfl <| c_seq <| c_reg ?_
 refine cmp false rfl rfl rfl <| agb rfl <| jt <| c_false rfl <| csr <| cmp false rfl rfl rfl <| agb rfl <| jt <| c_false rfl <| c_skip <| e_in <| e_then <| csr <| mvi rfl <| cmp _ rfl rfl rfl <| agb rfl <| jt <| c_ret ?_
 exact j_z (own0 := []) (ro0 := []) (.inl rfl) rfl (hr1 Tryz.results46 (rvt (v := (.bool _)) rfl)) rfl (⟨congrArg Value.bool (by show _ = isNum w; exact numV_0 h0), rfl, rfl⟩)
theorem Form28_ct (w : Str) : Ct Tryz.prog 44 [strV w] [] [] (fun v o r => v = strV ((form28 w).getD []) ∧ o = [] ∧ r = []) := by
 refine ct_enter Tryz.func44 rfl Tryz.ntmps44 (by kernel_rfl) rfl fun w0 => ?_
 refine csr <| ags rfl <| jsr <| bldA (α := Str) ((zarr : (Arr Str 2)).l) [(0, (([116, 111, 119, 110] : Str) : Str)), (1, (([118, 107, 116] : Str) : Str))] uy144 ty9.sz z144 rfl rfl rfl <| bldA (α := Str) ((zarr : (Arr Str 2)).l) [(0, (([112, 101, 114, 115, 111, 110] : Str) : Str)), (1, (([112, 100] : Str) : Str))] uy144 ty9.sz z144 rfl rfl rfl <| bldA (α := Str) ((zarr : (Arr Str 2)).l) [(0, (([100, 101, 118, 105, 99, 101] : Str) : Str)), (1, (([112, 68, 100] : Str) : Str))] uy144 ty9.sz z144 rfl rfl rfl <| bldA (α := Str) ((zarr : (Arr Str 2)).l) [(0, (([114, 101, 110, 101, 119] : Str) : Str)), (1, (([112, 68, 100] : Str) : Str))] uy144 ty9.sz z144 rfl rfl rfl <| bldA (α := Str) ((zarr : (Arr Str 2)).l) [(0, (([119, 105, 116, 104, 100, 114, 97, 119] : Str) : Str)), (1, (([112, 68] : Str) : Str))] uy144 ty9.sz z144 rfl rfl rfl <| bldA (α := Str) ((zarr : (Arr Str 2)).l) [(0, (([115, 116, 111, 99, 107] : Str) : Str)), (1, (([112, 68, 110, 100] : Str) : Str))] uy144 ty9.sz z144 rfl rfl rfl <| bldA (α := Str) ((zarr : (Arr Str 2)).l) [(0, (([119, 114, 105, 116, 101] : Str) : Str)), (1, (([112, 68, 112, 68, 100, 99] : Str) : Str))] uy144 ty9.sz z144 rfl rfl rfl <| bldA (α := Str) ((zarr : (Arr Str 2)).l) [(0, (([114, 101, 97, 100] : Str) : Str)), (1, (([110] : Str) : Str))] uy144 ty9.sz z144 rfl rfl rfl <| bldA (α := Str) ((zarr : (Arr Str 2)).l) [(0, (([98, 101, 110, 100] : Str) : Str)), (1, (([110, 110] : Str) : Str))] uy144 ty9.sz z144 rfl rfl rfl <| bldA (α := Str) ((zarr : (Arr Str 2)).l) [(0, (([102, 111, 117, 110, 100] : Str) : Str)), (1, (([103, 112, 68, 100] : Str) : Str))] uy144 ty9.sz z144 rfl rfl rfl <| bldA (α := Str) ((zarr : (Arr Str 2)).l) [(0, (([99, 97, 114, 100] : Str) : Str)), (1, (([103, 112, 68, 112, 68, 100] : Str) : Str))] uy144 ty9.sz z144 rfl rfl rfl <| bldA (α := Str) ((zarr : (Arr Str 2)).l) [(0, (([115, 97, 121] : Str) : Str)), (1, (([103, 112, 68, 99] : Str) : Str))] uy144 ty9.sz z144 rfl rfl rfl <| bldA (α := Str) ((zarr : (Arr Str 2)).l) [(0, (([104, 101, 97, 114] : Str) : Str)), (1, (([110, 112, 68] : Str) : Str))] uy144 ty9.sz z144 rfl rfl rfl <| bldA (α := Str) ((zarr : (Arr Str 2)).l) [(0, (([100, 114, 111, 112] : Str) : Str)), (1, (([103, 112, 68, 112, 68, 100] : Str) : Str))] uy144 ty9.sz z144 rfl rfl rfl <| bldA (α := Str) ((zarr : (Arr Str 2)).l) [(0, (([102, 105, 108, 101] : Str) : Str)), (1, (([100, 110] : Str) : Str))] uy144 ty9.sz z144 rfl rfl rfl <| bldA (α := Str) ((zarr : (Arr Str 2)).l) [(0, (([112, 105, 101, 99, 101] : Str) : Str)), (1, (([110, 110, 110] : Str) : Str))] uy144 ty9.sz z144 rfl rfl rfl <| bldA (α := Str) ((zarr : (Arr Str 2)).l) [(0, (([112, 114, 111, 118, 101] : Str) : Str)), (1, (([110, 110] : Str) : Str))] uy144 ty9.sz z144 rfl rfl rfl <| bldA (α := Str) ((zarr : (Arr Str 2)).l) [(0, (([115, 99, 97, 114] : Str) : Str)), (1, (([110, 110] : Str) : Str))] uy144 ty9.sz z144 rfl rfl rfl <| bldA (α := Str) ((zarr : (Arr Str 2)).l) [(0, (([99, 104, 101, 99, 107] : Str) : Str)), (1, (([110] : Str) : Str))] uy144 ty9.sz z144 rfl rfl rfl <| bldA (α := Str) ((zarr : (Arr Str 2)).l) [(0, (([116, 114, 117, 115, 116] : Str) : Str)), (1, (([112, 68, 112] : Str) : Str))] uy144 ty9.sz z144 rfl rfl rfl <| bldA (α := Str) ((zarr : (Arr Str 2)).l) [(0, (([99, 111, 110, 102, 105, 114, 109] : Str) : Str)), (1, (([112, 68, 112] : Str) : Str))] uy144 ty9.sz z144 rfl rfl rfl <| bldA (α := Str) ((zarr : (Arr Str 2)).l) [(0, (([97, 99, 99, 101, 112, 116] : Str) : Str)), (1, (([112, 68, 112] : Str) : Str))] uy144 ty9.sz z144 rfl rfl rfl <| bldA (α := Str) ((zarr : (Arr Str 2)).l) [(0, (([98, 108, 111, 99, 107] : Str) : Str)), (1, (([112, 68, 112] : Str) : Str))] uy144 ty9.sz z144 rfl rfl rfl <| bldA (α := Str) ((zarr : (Arr Str 2)).l) [(0, (([117, 110, 98, 108, 111, 99, 107] : Str) : Str)), (1, (([112, 68, 112] : Str) : Str))] uy144 ty9.sz z144 rfl rfl rfl <| bldA (α := Str) ((zarr : (Arr Str 2)).l) [(0, (([102, 111, 114, 103, 101, 116] : Str) : Str)), (1, (([112, 68, 112] : Str) : Str))] uy144 ty9.sz z144 rfl rfl rfl <| bldA (α := Str) ((zarr : (Arr Str 2)).l) [(0, (([102, 97, 108, 115, 101] : Str) : Str)), (1, (([112, 68, 112, 100] : Str) : Str))] uy144 ty9.sz z144 rfl rfl rfl <| bldA (α := Str) ((zarr : (Arr Str 2)).l) [(0, (([108, 97, 121] : Str) : Str)), (1, (([112, 68] : Str) : Str))] uy144 ty9.sz z144 rfl rfl rfl <| bldA (α := Str) ((zarr : (Arr Str 2)).l) [(0, (([99, 111, 109, 112, 97, 99, 116] : Str) : Str)), (1, (([112, 68] : Str) : Str))] uy144 ty9.sz z144 rfl rfl rfl <| bldA (α := Str) ((zarr : (Arr Str 2)).l) [(0, (([98, 97, 99, 107] : Str) : Str)), (1, (([112, 68, 110] : Str) : Str))] uy144 ty9.sz z144 rfl rfl rfl <| bldA (α := Str) ((zarr : (Arr Str 2)).l) [(0, (([108, 111, 111, 107] : Str) : Str)), (1, (([112, 68] : Str) : Str))] uy144 ty9.sz z144 rfl rfl rfl <| bldA (α := Str) ((zarr : (Arr Str 2)).l) [(0, (([103, 114, 111, 119, 110] : Str) : Str)), (1, (([110] : Str) : Str))] uy144 ty9.sz z144 rfl rfl rfl <| bsl (α := (Arr Str 2)) ([(Arr.set (Arr.set (zarr : (Arr Str 2)) 0 ([116, 111, 119, 110] : Str)) 1 ([118, 107, 116] : Str)), (Arr.set (Arr.set (zarr : (Arr Str 2)) 0 ([112, 101, 114, 115, 111, 110] : Str)) 1 ([112, 100] : Str)), (Arr.set (Arr.set (zarr : (Arr Str 2)) 0 ([100, 101, 118, 105, 99, 101] : Str)) 1 ([112, 68, 100] : Str)), (Arr.set (Arr.set (zarr : (Arr Str 2)) 0 ([114, 101, 110, 101, 119] : Str)) 1 ([112, 68, 100] : Str)), (Arr.set (Arr.set (zarr : (Arr Str 2)) 0 ([119, 105, 116, 104, 100, 114, 97, 119] : Str)) 1 ([112, 68] : Str)), (Arr.set (Arr.set (zarr : (Arr Str 2)) 0 ([115, 116, 111, 99, 107] : Str)) 1 ([112, 68, 110, 100] : Str)), (Arr.set (Arr.set (zarr : (Arr Str 2)) 0 ([119, 114, 105, 116, 101] : Str)) 1 ([112, 68, 112, 68, 100, 99] : Str)), (Arr.set (Arr.set (zarr : (Arr Str 2)) 0 ([114, 101, 97, 100] : Str)) 1 ([110] : Str)), (Arr.set (Arr.set (zarr : (Arr Str 2)) 0 ([98, 101, 110, 100] : Str)) 1 ([110, 110] : Str)), (Arr.set (Arr.set (zarr : (Arr Str 2)) 0 ([102, 111, 117, 110, 100] : Str)) 1 ([103, 112, 68, 100] : Str)), (Arr.set (Arr.set (zarr : (Arr Str 2)) 0 ([99, 97, 114, 100] : Str)) 1 ([103, 112, 68, 112, 68, 100] : Str)), (Arr.set (Arr.set (zarr : (Arr Str 2)) 0 ([115, 97, 121] : Str)) 1 ([103, 112, 68, 99] : Str)), (Arr.set (Arr.set (zarr : (Arr Str 2)) 0 ([104, 101, 97, 114] : Str)) 1 ([110, 112, 68] : Str)), (Arr.set (Arr.set (zarr : (Arr Str 2)) 0 ([100, 114, 111, 112] : Str)) 1 ([103, 112, 68, 112, 68, 100] : Str)), (Arr.set (Arr.set (zarr : (Arr Str 2)) 0 ([102, 105, 108, 101] : Str)) 1 ([100, 110] : Str)), (Arr.set (Arr.set (zarr : (Arr Str 2)) 0 ([112, 105, 101, 99, 101] : Str)) 1 ([110, 110, 110] : Str)), (Arr.set (Arr.set (zarr : (Arr Str 2)) 0 ([112, 114, 111, 118, 101] : Str)) 1 ([110, 110] : Str)), (Arr.set (Arr.set (zarr : (Arr Str 2)) 0 ([115, 99, 97, 114] : Str)) 1 ([110, 110] : Str)), (Arr.set (Arr.set (zarr : (Arr Str 2)) 0 ([99, 104, 101, 99, 107] : Str)) 1 ([110] : Str)), (Arr.set (Arr.set (zarr : (Arr Str 2)) 0 ([116, 114, 117, 115, 116] : Str)) 1 ([112, 68, 112] : Str)), (Arr.set (Arr.set (zarr : (Arr Str 2)) 0 ([99, 111, 110, 102, 105, 114, 109] : Str)) 1 ([112, 68, 112] : Str)), (Arr.set (Arr.set (zarr : (Arr Str 2)) 0 ([97, 99, 99, 101, 112, 116] : Str)) 1 ([112, 68, 112] : Str)), (Arr.set (Arr.set (zarr : (Arr Str 2)) 0 ([98, 108, 111, 99, 107] : Str)) 1 ([112, 68, 112] : Str)), (Arr.set (Arr.set (zarr : (Arr Str 2)) 0 ([117, 110, 98, 108, 111, 99, 107] : Str)) 1 ([112, 68, 112] : Str)), (Arr.set (Arr.set (zarr : (Arr Str 2)) 0 ([102, 111, 114, 103, 101, 116] : Str)) 1 ([112, 68, 112] : Str)), (Arr.set (Arr.set (zarr : (Arr Str 2)) 0 ([102, 97, 108, 115, 101] : Str)) 1 ([112, 68, 112, 100] : Str)), (Arr.set (Arr.set (zarr : (Arr Str 2)) 0 ([108, 97, 121] : Str)) 1 ([112, 68] : Str)), (Arr.set (Arr.set (zarr : (Arr Str 2)) 0 ([99, 111, 109, 112, 97, 99, 116] : Str)) 1 ([112, 68] : Str)), (Arr.set (Arr.set (zarr : (Arr Str 2)) 0 ([98, 97, 99, 107] : Str)) 1 ([112, 68, 110] : Str)), (Arr.set (Arr.set (zarr : (Arr Str 2)) 0 ([108, 111, 111, 107] : Str)) 1 ([112, 68] : Str)), (Arr.set (Arr.set (zarr : (Arr Str 2)) 0 ([103, 114, 111, 119, 110] : Str)) 1 ([110] : Str))]) uy145 ty144.sz rfl (by decide) z144 rfl fun b36 => ⟨trivial, ?_⟩
 refine j_nf (own' := [Gseg b36 144 ([]) formsL ([])]) (by kernel_rfl) <| agl rfl <| jt <| c_seq <| csr <| agi rfl <| jt <| c_block <| c_loop (σ := Nat) (fun i => i ≤ 31 ∧ ∀ j, j < i → List.getD formsL (2 * j) [] ≠ w) (fun i => 31 - i) (fun i => [(4, .int .i64 (i : Int))]) (fun i => [Gseg b36 144 ([]) formsL ([])]) (fun i => []) [2, 4, 37, 38, 39, 40, 41, 42, 43, 44, 45, 46, 47, 48, 49, 50, 51, 52, 53, 54] 0 (⟨by omega, fun j hj => by omega⟩) ⟨rfl, trivial⟩ rfl rfl ?_
 rintro i g1 hI1
 try dsimp only at hI1 ⊢
 refine c_seq <| csr <| mvi rfl <| mvl rfl <| lenS rfl uy145 <| cmp _ rfl rfl rfl <| jt <| c_cond rfl (fun h1 => ?_) (fun h1 => ?_)
 ·replace h1 := of_decide_eq_true h1
  refine c_skip <| e_then <| c_seq <| c_block <| csr <| mvl rfl <| mvi rfl <| ixa i rfl rfl uy145 ty144.sz rfl (by omega) <| ixaA 0 rfl rfl uy144 ty9.sz rfl (by decide) <| ldGr 0 (2 * i) _ (List.getD formsL (2 * i) []) rfl rfl (by show _ = 0 + (2 * i) * 1; omega) (getD_some (by rw [forms_len]; omega)) ty9 <| mvs rfl <| scmp (a := (List.getD formsL (2 * i) [])) (b := w) _ rfl rfl uy9 rfl <| jt <| c_cond rfl (fun h2 => ?_) (fun h2 => ?_)
  ·replace h2 := of_decide_eq_true h2
   refine csr <| mvl rfl <| mvi rfl <| ixa i rfl rfl uy145 ty144.sz rfl (by omega) <| ixaA 1 rfl rfl uy144 ty9.sz rfl (by decide) <| ldGr 0 (2 * i + 1) _ (List.getD formsL (2 * i + 1) []) rfl rfl (by show _ = 0 + (2 * i + 1) * 1; omega) (getD_some (by rw [forms_len]; omega)) ty9 <| ags rfl <| jt <| c_ret ?_
   exact j_d (own0 := []) (ro0 := []) (.inl rfl) rfl (hr1 Tryz.results44 (rvt (v := (.string _)) rfl)) [0] [_] rfl (by kernel_rfl) rfl (⟨congrArg strV (by rw [getD_findF, findF_at formsL w i hI1.2 (by rw [forms_len]; omega) (by assumption)]; rfl), rfl, rfl⟩)
  ·replace h2 := of_decide_eq_false h2
   refine c_skip <| e_in <| e_then <| c_reg <| mvi rfl <| addi rfl rfl rfl (by omega) <| agi rfl <| jn ?_
   exact e_loop (i + 1) (⟨by omega, fun j hj => by rcases Nat.lt_or_ge j i with h | h; exact hI1.2 j h; rw [show j = i by omega]; assumption⟩) (by show 31 - (i + 1) < 31 - i; omega) (⟨rfl, trivial⟩) rfl rfl rfl
 ·replace h1 := of_decide_eq_false h1
  refine c_exit rfl <| e_then <| csr <| ags rfl <| jt <| c_ret ?_
  exact j_d (own0 := []) (ro0 := []) (.inl rfl) rfl (hr1 Tryz.results44 (rvt (v := (.string _)) rfl)) [0] [_] rfl (by kernel_rfl) rfl (⟨congrArg strV (by rw [getD_findF, findF_no formsL w (fun j hj => hI1.2 j (by rw [forms_len] at hj; omega))]; rfl), rfl, rfl⟩)
theorem known_ct (w : Str) : Ct Tryz.prog 45 [strV w] [] [] (fun v o r => v = .bool (form28 w).isSome ∧ o = [] ∧ r = []) := by
 refine ct_enter Tryz.func45 rfl Tryz.ntmps45 (by kernel_rfl) rfl fun w0 => ?_
 refine csr <| agb rfl <| jsr <| mvs rfl <| scmp (a := w) (b := ([116, 114, 101, 101] : Str)) _ rfl rfl uy9 rfl <| mvb rfl <| jsplit 5 rfl (fun h1 => ?_) (fun h1 => ?_)
 ·replace h1 := of_decide_eq_true h1
  refine g_off rfl rfl rfl rfl <| g_off rfl rfl rfl rfl <| g_off rfl rfl rfl rfl <| pkt (.bool _) rfl rfl <| agb rfl <| jt <| c_ret ?_
  exact j_z (own0 := []) (ro0 := []) (.inl rfl) rfl (hr1 Tryz.results45 (rvt (v := (.bool _)) rfl)) rfl (⟨congrArg Value.bool (by first | (rw [show w = [116, 114, 101, 101] by assumption]; rfl) | exact known_ne (by assumption)), rfl, rfl⟩)
 ·replace h1 := of_decide_eq_false h1
  refine g_on rfl rfl rfl <| mvs rfl <| g_on rfl rfl rfl <| cal (Form28_ct w) [] [] [] rfl rfl rfl (by kernel_rfl) impl_nil rfl ?_; rintro _ _ _ ⟨rfl, rfl, rfl⟩; refine ⟨trivial, ?_⟩
  refine g_on rfl rfl rfl <| scmp (a := ((form28 w).getD [])) (b := ([] : Str)) _ rfl rfl uy9 rfl <| pkf (.bool _) rfl rfl <| agb rfl <| jt <| c_ret ?_
  exact j_z (own0 := []) (ro0 := []) (.inl rfl) rfl (hr1 Tryz.results45 (rvt (v := (.bool _)) rfl)) rfl (⟨congrArg Value.bool (by first | (rw [show w = [116, 114, 101, 101] by assumption]; rfl) | exact known_ne (by assumption)), rfl, rfl⟩)
end Go.Proofs.YtakbbpahfclgnaaGreatDoor
namespace Go.Proofs.YtakbbpahfclgnaaGreatDoor
open Go Go.Proofs Go.PW
open Go.PW.Enc (enc val)
theorem zv9 : Zt Tryz.prog 9 (val ([] : Str)) := by unfold Zt; kernel_rfl
theorem wp_ne {s : Str} (h : ¬ (((wordsL s 0).map toP).length : Int) = 0) : ∃ a wd r, wordsL s 0 = (a, wd) :: r := by
  cases hw : wordsL s 0 with
  | nil => rw [hw] at h; exact absurd rfl h
  | cons x r => exact ⟨x.1, x.2, r, rfl⟩
theorem wp_no {s : Str} (h : (((wordsL s 0).map toP).length : Int) = 0) : wordsL s 0 = [] := by
  cases hw : wordsL s 0 with
  | nil => rfl
  | cons x r => rw [hw] at h; simp at h; omega
theorem wp_len {s : Str} {x : Nat × Str} {r : List (Nat × Str)} (hw : wordsL s 0 = x :: r) : ((wordsL s 0).map toP).length = r.length + 1 := by rw [hw]; simp
theorem wp_ln (s : Str) : ((wordsL s 0).map toP).length = (wordsL s 0).length := List.length_map ..
theorem wp_at {s : Str} {j : Nat} (h : j < ((wordsL s 0).map toP).length) : ((wordsL s 0).map toP)[j]? = some (toP (List.getD (wordsL s 0) j (0, []))) := by
  rw [List.length_map] at h; simp [List.getD, h]
theorem wp_mem {s : Str} {j : Nat} (h : j < ((wordsL s 0).map toP).length) : (List.getD (wordsL s 0) j (0, [])).1 < s.length ∧ 1 ≤ (List.getD (wordsL s 0) j (0, [])).2.length ∧ (List.getD (wordsL s 0) j (0, [])).1 + (List.getD (wordsL s 0) j (0, [])).2.length ≤ s.length := by
  rw [List.length_map] at h
  have := wordsL_mem s.length s 0 (by omega) _ (show List.getD (wordsL s 0) j (0, []) ∈ wordsL s 0 by simp [List.getD, h])
  exact ⟨this.1, this.2.1, this.2.2.1⟩
theorem sub_off {o : Ow} {J n : Nat} (h : J < o.cap) : (o.vs.sub J n).off + 0 * n = o.vs.off + J * n := by
  show (if o.cap = J then 0 else 0 + J * n) + 0 * n = 0 + J * n
  rw [if_neg (by omega)]; omega
theorem sub_sub {o : Ow} {J n : Nat} (h : J + 1 < o.cap) : ((o.vs.sub J n).sub 1 n).adr = (o.vs.sub (J + 1) n).adr ∧ ((o.vs.sub J n).sub 1 n).cap = (o.vs.sub (J + 1) n).cap := by
  constructor
  · have e1 : ¬ o.cap = J := by omega
    have e2 : ¬ o.cap - J = 1 := by omega
    have e3 : ¬ o.cap = J + 1 := by omega
    unfold Vs.adr
    show (if o.nl = true then _ else _) = (if o.nl = true then _ else _)
    cases o.nl with
    | true => simp [Vs.sub, Ow.vs, e1, e2, e3]
    | false => simp [Vs.sub, Ow.vs, e1, e2, e3, Nat.add_mul]
  · show o.cap - J - 1 = o.cap - (J + 1)
    omega
theorem kU28_content : kU28 ([99, 111, 110, 116, 101, 110, 116] : Str) = 99 := by kernel_rfl
theorem kU28_ne {k : Str} (hk : k ∈ k28.map (·.1)) (hc : k ≠ ([99, 111, 110, 116, 101, 110, 116] : Str)) : kU28 k ≠ 99 := by
  simp only [k28, List.map_cons, List.map_nil, List.mem_cons, List.not_mem_nil, or_false] at hk
  rcases hk with rfl | rfl | rfl | rfl | rfl | rfl | rfl | rfl | rfl
  all_goals first | (intro h; exact absurd h (by decide +kernel)) | exact absurd rfl hc
theorem knd28_mem {ks : List Str} (h : knd28 ks = true) {i : Nat} (hi : i < ks.length) : List.getD ks i [] ∈ k28.map (·.1) := by
  unfold knd28 at h
  rw [Bool.and_eq_true, List.all_eq_true] at h
  have := h.1 _ (show List.getD ks i [] ∈ ks by simp [List.getD, hi])
  simpa using this
theorem knd28_last {ks : List Str} (h : knd28 ks = true) {i : Nat} (hi : i < ks.length) (hc : List.getD ks i [] = ([99, 111, 110, 116, 101, 110, 116] : Str)) : ks.drop (i + 1) = [] := by
  unfold knd28 at h
  rw [Bool.and_eq_true] at h
  exact lastC_at rfl h.2 hi hc
theorem drop_kU8 {ks : List Str} {i : Nat} (hi : i < ks.length) : (ks.drop i).map kU28 = kU28 (List.getD ks i []) :: (ks.drop (i + 1)).map kU28 := by
  rw [List.drop_eq_getElem_cons hi, List.map_cons, show List.getD ks i [] = ks[i] by simp [List.getD, hi]]
theorem pfits_ct (k w : Str) (hk : k ∈ k28.map (·.1)) (hc : k ≠ ([99, 111, 110, 116, 101, 110, 116] : Str)) (h0 : 0 < w.length) (hw : w.length ≤ 140737488351232) : Ct Tryz.prog 43 [strV k, strV w] [] [] (fun v o r => v = .bool (fit28 (kU28 k) w) ∧ o = [] ∧ r = []) := by
  simp only [k28, List.map_cons, List.map_nil, List.mem_cons, List.not_mem_nil, or_false] at hk
  rcases hk with rfl | rfl | rfl | rfl | rfl | rfl | rfl | rfl | rfl
  · exact pfits_version w h0 hw
  · exact pfits_skip w h0 hw
  · exact pfits_store w h0 hw
  · exact pfits_name w h0 hw
  · exact pfits_group w h0 hw
  · exact pfits_seed w h0 hw
  · exact pfits_digit w h0 hw
  · exact pfits_number w h0 hw
  · exact absurd rfl hc
theorem kinds_ct {w sh : Str} (h : Shape w sh) : Ct Tryz.prog 41 [strV sh] [] [tAsc 1] (fun v o r => ∃ (KN : List Str) (o' : Ow), form28 w = some (KN.map kU28) ∧ knd28 KN = true ∧ KN.length ≤ 6 ∧ o'.ok KN ∧ v = .slice o'.adr KN.length o'.cap ∧ o = [o'.seg KN 9] ∧ r = []) :=
  (sFields_ct sh (by have := h.2.1; omega) h.2.2.1).mono fun v o r ⟨o', h1, h2, h3, h4⟩ => ⟨_, o', h.2.2.2.1, h.2.2.2.2.1, h.2.2.2.2.2, h1, h2, h3, h4⟩
theorem parsed_ct (s : Str) (n : Nat) (hs : s.length ≤ 1000000) (hn : n ≤ 1000000) (eu : TypeId) (ev : Value) (ru : TypeId) (rv : Value) : Ct Tryz.prog 24 [strV s, .int .i64 (n : Int)] [] [tPow10 9, tDb64 11, tIf 7 eu ev, tIf 8 ru rv, tAsc 1] (fun v w q => (∃ (wd : Str) (acc : List Str) (o' : Ow), lineR fit28 form28 [116, 111, 119, 110] 280 s n = .inr (some (wd, acc)) ∧ o'.ok acc ∧ acc.length ≤ 6 ∧ wd.length ≤ 4000 ∧ wd ≠ [] ∧ v = .tuple #[.agg ⟨cat [pt (0 : Int), pt wd, p1 (.slice o'.adr acc.length o'.cap)]⟩, .int .i64 0, .int .i64 0] ∧ w = [o'.seg acc 9] ∧ q = []) ∨ (lineR fit28 form28 [116, 111, 119, 110] 280 s n = .inr none ∧ v = .tuple #[.agg ⟨cat [pt (0 : Int), pt ([] : Str), p1 (.slice none 0 0)]⟩, .int .i64 0, .int .i64 0] ∧ w = [] ∧ q = []) ∨ (∃ (a e : Nat), lineR fit28 form28 [116, 111, 119, 110] 280 s n = .inl (a, e) ∧ 0 < e ∧ a ≤ 10000 ∧ v = .tuple #[.agg ⟨cat [pt (0 : Int), pt ([] : Str), p1 (.slice none 0 0)]⟩, .int .i64 (a : Int), .int .i64 (e : Int)] ∧ w = [] ∧ q = [])) := by
 refine ct_enter Tryz.func24 rfl Tryz.ntmps24 (by kernel_rfl) rfl fun w0 => ?_
 refine csr <| alo [pt (0 : Int), pt ([] : Str), p1 (.slice none 0 0)] _ z39 rfl fun b4 => ⟨trivial, ?_⟩
 refine agi rfl <| agi rfl <| jt <| c_seq <| csr <| mvs rfl <| lenT (s := s) rfl uy9 <| cmp _ rfl rfl rfl <| jt <| c_cond rfl (fun h1 => ?_) (fun h1 => ?_)
 ·replace h1 := of_decide_eq_true h1
  refine csr <| bld [pt (0 : Int), pt ([] : Str), p1 (.slice none 0 0)] [] _ uy39 (lay39 _ uy39) z39 rfl rfl rfl <| stw 0 _ [pt (0 : Int), pt ([] : Str), p1 (.slice none 0 0)] rfl rfl rfl rfl ty39 ⟨trivial, ?_⟩
  refine agi rfl <| agi rfl <| jt <| c_ret ?_
  exact j_d (own0 := []) (ro0 := [tPow10 9, tDb64 11, tIf 7 eu ev, tIf 8 ru rv, tAsc 1]) (.inl rfl) rfl (hr3 Tryz.results24 (rvc (p := pa [pt (0 : Int), pt ([] : Str), p1 (.slice none 0 0)]) 0 rfl rfl rfl ty39) (rvt (v := (.int _ _)) rfl) (rvt (v := (.int _ _)) rfl)) [0] [_] rfl (by kernel_rfl) rfl (.inr (.inr ⟨4000, 2, line_long (by omega), by decide, by omega, rfl, rfl, rfl⟩))
 ·replace h1 := of_decide_eq_false h1
  refine c_skip <| e_then <| csr <| mvs rfl <| cal (wordsOf_ct s (by omega)) [] [0] [_] rfl rfl rfl (by kernel_rfl) impl_nil rfl ?_; rintro _ _ _ ⟨pw, hpw, rfl, rfl, rfl⟩; refine ⟨trivial, ?_⟩
  refine agl rfl <| jt <| c_seq <| csr <| mvl rfl <| lenS rfl uy94 <| cmp _ rfl rfl rfl <| mvb rfl <| jsplit 27 rfl (fun h2 => ?_) (fun h2 => ?_)
  ·replace h2 := of_decide_eq_true h2
   refine g_off rfl rfl rfl rfl <| g_off rfl rfl rfl rfl <| g_off rfl rfl rfl rfl <| g_off rfl rfl rfl rfl <| g_off rfl rfl rfl rfl <| g_off rfl rfl rfl rfl <| pkt (.bool _) rfl rfl <| jt <| c_true rfl <| csr <| bld [pt (0 : Int), pt ([] : Str), p1 (.slice none 0 0)] [] _ uy39 (lay39 _ uy39) z39 rfl rfl rfl <| stw 0 _ [pt (0 : Int), pt ([] : Str), p1 (.slice none 0 0)] rfl rfl rfl rfl ty39 ⟨trivial, ?_⟩
   refine agi rfl <| agi rfl <| jt <| c_ret ?_
   exact j_d (own0 := []) (ro0 := [tPow10 9, tDb64 11, tIf 7 eu ev, tIf 8 ru rv, tAsc 1]) (.inl rfl) rfl (hr3 Tryz.results24 (rvc (p := pa [pt (0 : Int), pt ([] : Str), p1 (.slice none 0 0)]) 0 rfl rfl rfl ty39) (rvt (v := (.int _ _)) rfl) (rvt (v := (.int _ _)) rfl)) [0, 1] [_, _] rfl (by kernel_rfl) rfl (.inr (.inl ⟨line_blank (by omega) (wp_no (by omega)), rfl, rfl, rfl⟩))
  ·replace h2 := of_decide_eq_false h2
   refine g_on rfl rfl rfl <| mvl rfl ?_
   obtain ⟨a0, wd, r, hw⟩ := wp_ne (s := s) (by omega)
   have HWM := wordsL_mem _ s 0 (Nat.le_refl _) (a0, wd) (by rw [hw]; exact List.mem_cons_self ..)
   dsimp only at HWM
   have HWL := wp_len hw
   refine g_on rfl rfl rfl <| ixs ((pw).vs) ((wordsL s 0).map toP) 0 (Ow.vs_ok hpw) rfl rfl rfl uy94 ty97.sz rfl (by rw [wp_len hw]; omega) <| g_on rfl rfl rfl <| fad rfl uy97 rfl ty9.sz <| g_on rfl rfl rfl <| ldsofG 1 0 (toP (a0, wd)) _ hpw rfl rfl rfl (by rw [hw]; rfl) rfl rfl ty9 <| g_on rfl rfl rfl <| idxT (s := wd) 0 rfl rfl uy9 rfl (by first | omega | (simp; done) | (simp; omega) | (simp at *; omega)) <| g_on rfl rfl rfl <| equ8 (a := (List.getD wd 0 0)) (b := (35 : UInt8)) _ rfl rfl rfl <| pkf (.bool _) rfl rfl <| jt <| c_cond rfl (fun h3 => ?_) (fun h3 => ?_)
   ·replace h3 := of_decide_eq_true h3
    refine csr <| bld [pt (0 : Int), pt ([] : Str), p1 (.slice none 0 0)] [] _ uy39 (lay39 _ uy39) z39 rfl rfl rfl <| stw 0 _ [pt (0 : Int), pt ([] : Str), p1 (.slice none 0 0)] rfl rfl rfl rfl ty39 ⟨trivial, ?_⟩
    refine agi rfl <| agi rfl <| jt <| c_ret ?_
    exact j_d (own0 := []) (ro0 := [tPow10 9, tDb64 11, tIf 7 eu ev, tIf 8 ru rv, tAsc 1]) (.inl rfl) rfl (hr3 Tryz.results24 (rvc (p := pa [pt (0 : Int), pt ([] : Str), p1 (.slice none 0 0)]) 0 rfl rfl rfl ty39) (rvt (v := (.int _ _)) rfl) (rvt (v := (.int _ _)) rfl)) [0, 1] [_, _] rfl (by kernel_rfl) rfl (.inr (.inl ⟨line_note (by omega) hw (by assumption), rfl, rfl, rfl⟩))
   ·replace h3 := of_decide_eq_false h3
    refine c_skip <| e_then <| c_seq <| csr <| mvi rfl <| cmp _ rfl rfl rfl <| jt <| c_cond rfl (fun h4 => ?_) (fun h4 => ?_)
    ·replace h4 := of_decide_eq_true h4
     refine csr <| bld [pt (0 : Int), pt ([] : Str), p1 (.slice none 0 0)] [] _ uy39 (lay39 _ uy39) z39 rfl rfl rfl <| stw 0 _ [pt (0 : Int), pt ([] : Str), p1 (.slice none 0 0)] rfl rfl rfl rfl ty39 ⟨trivial, ?_⟩
     refine agi rfl <| agi rfl <| jt <| c_ret ?_
     exact j_d (own0 := []) (ro0 := [tPow10 9, tDb64 11, tIf 7 eu ev, tIf 8 ru rv, tAsc 1]) (.inl rfl) rfl (hr3 Tryz.results24 (rvc (p := pa [pt (0 : Int), pt ([] : Str), p1 (.slice none 0 0)]) 0 rfl rfl rfl ty39) (rvt (v := (.int _ _)) rfl) (rvt (v := (.int _ _)) rfl)) [0, 1] [_, _] rfl (by kernel_rfl) rfl (.inr (.inr ⟨0, 2, line_many (by omega) hw (by assumption) (by omega), by decide, by omega, rfl, rfl, rfl⟩))
    ·replace h4 := of_decide_eq_false h4
     refine c_skip <| e_then <| c_seq <| c_dr [_, _, _, _, _, _, _] [] [(1, 0), (2, 0), (3, 0), (4, 0), (0, 1), (5, 1), (6, 0), (7, 0), (8, 0), (9, 0), (10, 0)] follows (by kernel_rfl) calm_body (keepS [0, 1, 2, 3, 4, 5, 6] rfl) <| mvl rfl <| ixs ((pw).vs) ((wordsL s 0).map toP) 0 (Ow.vs_ok hpw) rfl rfl rfl uy94 ty97.sz rfl (by rw [wp_len hw]; omega) <| fad rfl uy97 rfl ty9.sz <| ldsofG 1 0 (toP (a0, wd)) _ hpw rfl rfl rfl (by rw [hw]; rfl) rfl rfl ty9 <| cal shapes_ct [] [0, 1] [_, _] rfl rfl rfl (by kernel_rfl) impl_nil rfl ?_; rintro _ _ _ ⟨ms, rfl, rfl, rfl⟩; refine ⟨keepI [0, 1, 3, 4, 5, 6, 7] rfl, ?_⟩
     rcases shape_cases wd with ⟨HG, HF⟩ | ⟨sh, HSH⟩
     ·refine lk2v 2 kv28 wd ([] : Str) none HG rfl rfl rfl uy99 key9 zv9 rfl <| mv (.tuple _) rfl <| xtr (.string _) rfl rfl <| xtr (.bool _) rfl rfl <| ags rfl <| agb rfl <| jt <| c_seq <| csr <| mvb rfl <| not_ rfl <| mvb rfl <| g_off rfl rfl rfl rfl <| g_off rfl rfl rfl rfl <| g_off rfl rfl rfl rfl <| g_off rfl rfl rfl rfl <| g_off rfl rfl rfl rfl <| g_off rfl rfl rfl rfl <| g_off rfl rfl rfl rfl <| g_off rfl rfl rfl rfl <| pkt (.bool _) rfl rfl <| jt <| c_true rfl <| c_seq <| c_dr [_, _, _, _, _, _, _] [] [(0, 0), (1, 0), (2, 0), (3, 0), (4, 0), (5, 1), (6, 0), (7, 0)] follows (by kernel_rfl) calm_body (keepS [1, 2, 3, 4, 5, 6, 7] rfl) <| bld [pt (0 : Int), pt ([] : Str), p1 (.slice none 0 0)] [] _ uy39 (lay39 _ uy39) z39 rfl rfl rfl <| mvl rfl <| ixs ((pw).vs) ((wordsL s 0).map toP) 0 (Ow.vs_ok hpw) rfl rfl rfl uy94 ty97.sz rfl (by rw [wp_len hw]; omega) <| fad rfl uy97 rfl ty3.sz <| ldsofG 0 1 (toP (a0, wd)) _ hpw rfl rfl rfl (by rw [hw]; rfl) rfl rfl ty3 <| stw 0 _ [pt (0 : Int), pt ([] : Str), p1 (.slice none 0 0)] rfl rfl rfl rfl ty39 ⟨keepI [1, 2, 3, 4, 5, 6, 7] rfl, ?_⟩
      refine agi rfl <| agi rfl <| jt <| c_ret ?_
      exact j_d (own0 := []) (ro0 := [tPow10 9, tDb64 11, tIf 7 eu ev, tIf 8 ru rv, tAsc 1]) (.inl rfl) rfl (hr3 Tryz.results24 (rvc (p := pa [pt (0 : Int), pt ([] : Str), p1 (.slice none 0 0)]) 0 rfl rfl rfl ty39) (rvt (v := (.int _ _)) rfl) (rvt (v := (.int _ _)) rfl)) [0, 1, 2] [_, _, _] rfl (by kernel_rfl) rfl (.inr (.inr ⟨a0, 280, line_unknown (by omega) hw (by assumption) (by omega) HF, by decide, by omega, rfl, rfl, rfl⟩))
     ·refine lk2v 2 kv28 wd ([] : Str) (some sh) HSH.1 rfl rfl rfl uy99 key9 zv9 rfl <| mv (.tuple _) rfl <| xtr (.string _) rfl rfl <| xtr (.bool _) rfl rfl <| ags rfl <| agb rfl <| jt <| c_seq <| csr <| mvb rfl <| not_ rfl <| mvb rfl <| g_on rfl rfl rfl <| mvl rfl <| g_on rfl rfl rfl <| ixs ((pw).vs) ((wordsL s 0).map toP) 0 (Ow.vs_ok hpw) rfl rfl rfl uy94 ty97.sz rfl (by rw [wp_len hw]; omega) <| g_on rfl rfl rfl <| fad rfl uy97 rfl ty9.sz <| g_on rfl rfl rfl <| ldsofG 1 0 (toP (a0, wd)) _ hpw rfl rfl rfl (by rw [hw]; rfl) rfl rfl ty9 <| g_on rfl rfl rfl <| scmp (a := wd) (b := ([116, 111, 119, 110] : Str)) _ rfl rfl uy9 rfl <| g_on rfl rfl rfl <| mvi rfl <| g_on rfl rfl rfl <| cmp _ rfl rfl rfl <| g_on rfl rfl rfl <| eqbo _ rfl rfl uy4 rfl <| pkf (.bool _) rfl rfl <| jt <| c_cond rfl (fun h5 => ?_) (fun h5 => ?_)
      ·refine c_seq <| c_dr [_, _, _, _, _, _, _] [] [(0, 0), (1, 0), (2, 0), (3, 0), (4, 0), (5, 1), (6, 0), (7, 0)] follows (by kernel_rfl) calm_body (keepS [1, 2, 3, 4, 5, 6, 7] rfl) <| bld [pt (0 : Int), pt ([] : Str), p1 (.slice none 0 0)] [] _ uy39 (lay39 _ uy39) z39 rfl rfl rfl <| mvl rfl <| ixs ((pw).vs) ((wordsL s 0).map toP) 0 (Ow.vs_ok hpw) rfl rfl rfl uy94 ty97.sz rfl (by rw [wp_len hw]; omega) <| fad rfl uy97 rfl ty3.sz <| ldsofG 0 1 (toP (a0, wd)) _ hpw rfl rfl rfl (by rw [hw]; rfl) rfl rfl ty3 <| stw 0 _ [pt (0 : Int), pt ([] : Str), p1 (.slice none 0 0)] rfl rfl rfl rfl ty39 ⟨keepI [1, 2, 3, 4, 5, 6, 7] rfl, ?_⟩
       refine agi rfl <| agi rfl <| jt <| c_ret ?_
       exact j_d (own0 := []) (ro0 := [tPow10 9, tDb64 11, tIf 7 eu ev, tIf 8 ru rv, tAsc 1]) (.inl rfl) rfl (hr3 Tryz.results24 (rvc (p := pa [pt (0 : Int), pt ([] : Str), p1 (.slice none 0 0)]) 0 rfl rfl rfl ty39) (rvt (v := (.int _ _)) rfl) (rvt (v := (.int _ _)) rfl)) [0, 1, 2] [_, _, _] rfl (by kernel_rfl) rfl (.inr (.inr ⟨a0, 280, line_place (by omega) hw (by assumption) (by omega) HSH.2.2.2.1 (bne_t (by assumption)), by decide, by omega, rfl, rfl, rfl⟩))
      ·refine c_skip <| e_then <| csr <| mvl rfl <| ixs ((pw).vs) ((wordsL s 0).map toP) 0 (Ow.vs_ok hpw) rfl rfl rfl uy94 ty97.sz rfl (by rw [wp_len hw]; omega) <| fad rfl uy97 rfl ty9.sz <| ldsofG 1 0 (toP (a0, wd)) _ hpw rfl rfl rfl (by rw [hw]; rfl) rfl rfl ty9 <| bld [pt (0 : Int), pt ([] : Str), p1 (.slice none 0 0)] [(1, pt wd)] _ uy39 (lay39 _ uy39) z39 rfl rfl rfl <| alo [pt (0 : Int), pt ([] : Str), p1 (.slice none 0 0)] _ z39 rfl fun b10 => ⟨trivial, ?_⟩
       refine stw 3 _ [pt (0 : Int), pt wd, p1 (.slice none 0 0)] rfl rfl rfl rfl ty39 ⟨trivial, ?_⟩
       refine jsr <| mvl rfl <| sli ((pw).vs) 1 (((wordsL s 0).map toP).length) rfl uy94 ty97.sz (⟨_, rfl⟩) rfl (by omega) (by have := hpw.le; first | omega | (show _ ≤ pw.cap; omega)) (by have := hpw.le; first | omega | (show _ ≤ pw.cap; omega)) <| agl rfl <| jt <| c_seq <| csr <| mvs rfl <| cal (kinds_ct HSH) [] [0, 1, 2, 3] [_, _, _, _] rfl rfl rfl (by kernel_rfl) (impl_cons (impl_at 4 rfl) impl_nil) rfl ?_; rintro _ _ _ ⟨KN, ok9, HSF, hkk, hkl, hko, rfl, rfl, rfl⟩; refine ⟨trivial, ?_⟩
       refine lenS rfl uy37 <| mvi rfl <| jt <| c_block <| c_addE <| c_loop (σ := Nat × Nat × List Str × Ow × Option Addr × Nat) (fun (i, J, acc, o, ra, rc) => i ≤ KN.length ∧ J ≤ ((wordsL s 0).map toP).length ∧ o.ok acc ∧ acc.length ≤ i ∧ (J < ((wordsL s 0).map toP).length → ra = (Vs.sub pw.vs J 2).adr ∧ rc = (Vs.sub pw.vs J 2).cap) ∧ argsR fit28 280 s [] (KN.map kU28) r = argsR fit28 280 s acc ((KN.drop i).map kU28) ((wordsL s 0).drop J)) (fun (i, J, acc, o, ra, rc) => KN.length - i) (fun (i, J, acc, o, ra, rc) => [(75, .int .i64 (i : Int)), (11, .slice ra (((wordsL s 0).map toP).length - J) rc)]) (fun (i, J, acc, o, ra, rc) => [[(b4, .cells (cat [pt (0 : Int), pt ([] : Str), p1 (.slice none 0 0)]) 39)], pw.seg ((wordsL s 0).map toP) 97, [(ms, .pred (isMap (kv28)))], [(b10, .cells (cat [pt (0 : Int), pt wd, p1 (.slice o.adr acc.length o.cap)]) 39)], ok9.seg KN 9, o.seg acc 9]) (fun (i, J, acc, o, ra, rc) => [tPow10 9, tDb64 11, tIf 7 eu ev, tIf 8 ru rv, tAsc 1]) [5, 6, 11, 13, 14, 15, 16, 17, 75, 76, 77, 78, 79, 80, 81, 82, 83, 84, 85, 86, 87, 88, 89, 90, 91, 92, 93, 94, 95, 96, 97, 98, 99, 100, 101, 102, 103, 104, 105, 106, 107, 108, 109, 110, 111, 112, 113, 114, 115, 116, 117, 118, 119, 120, 121, 122, 123, 124, 125, 126, 127] (0, 1, [], Ow.nil, (Vs.sub pw.vs 1 2).adr, (Vs.sub pw.vs 1 2).cap) (⟨Nat.zero_le _, by omega, Ow.nil_ok, Nat.le_refl _, (fun _ => ⟨rfl, rfl⟩), by rw [hw]; rfl⟩) ⟨rfl, rfl, trivial⟩ rfl rfl ?_
       rintro ⟨i, J, acc, o, ra, rc⟩ g1 hI1
       try dsimp only at hI1 ⊢
       have HJ1 := hI1.2.1
       have HA1 := hI1.2.2.2.1
       have HRA := hI1.2.2.2.2.1
       have HE1 := hI1.2.2.2.2.2
       have HPL := hpw.le
       refine csr <| cmp _ rfl rfl rfl <| jt <| c_seq <| c_cond rfl (fun h6 => ?_) (fun h6 => ?_)
       ·replace h6 := of_decide_eq_true h6
        refine c_skip <| e_then <| c_seq <| c_block <| csr <| ixs ((ok9).vs) KN i (Ow.vs_ok hko) rfl rfl rfl uy37 ty9.sz rfl (by first | omega | (simp; done) | (simp; omega) | (simp at *; omega)) <| ldsoG 4 (List.getD KN i []) hko rfl rfl rfl rfl (getD_some (by first | omega | (simp; done) | (simp; omega) | (simp at *; omega))) ty9 <| ags rfl <| jt <| c_seq <| csr <| mvl rfl <| lenS rfl uy94 <| cmp _ rfl rfl rfl <| jt <| c_cond rfl (fun h7 => ?_) (fun h7 => ?_)
        ·replace h7 := of_decide_eq_true h7
         refine csr <| bld [pt (0 : Int), pt ([] : Str), p1 (.slice none 0 0)] [] _ uy39 (lay39 _ uy39) z39 rfl rfl rfl <| mvs rfl <| lenT (s := s) rfl uy9 <| stw 0 _ [pt (0 : Int), pt ([] : Str), p1 (.slice none 0 0)] rfl rfl rfl rfl ty39 ⟨trivial, ?_⟩
         refine agi rfl <| agi rfl <| jt <| c_ret ?_
         exact j_d (own0 := []) (ro0 := [tPow10 9, tDb64 11, tIf 7 eu ev, tIf 8 ru rv, tAsc 1]) (.inl rfl) rfl (hr3 Tryz.results24 (rvc (p := pa [pt (0 : Int), pt ([] : Str), p1 (.slice none 0 0)]) 0 rfl rfl rfl ty39) (rvt (v := (.int _ _)) rfl) (rvt (v := (.int _ _)) rfl)) [0, 1, 2, 3, 4, 5] [_, _, _, _, _, _] rfl (by kernel_rfl) rfl (.inr (.inr ⟨s.length, 280, line_bad (by omega) hw (by assumption) (by omega) HSF (bne_f (by assumption)) (HE1.trans (by rw [drop_kU8 (by omega), show List.drop J (wordsL s 0) = [] from List.drop_of_length_le (by rw [← wp_ln]; omega)]; rfl)), by decide, by omega, rfl, rfl, rfl⟩))
        ·replace h7 := of_decide_eq_false h7
         refine c_skip <| e_then <| c_seq ?_
         obtain ⟨rfl, rfl⟩ := HRA (by omega)
         have HRM := wp_mem (s := s) (j := J) (by omega)
         have HLW := wp_ln s
         refine c_reg <| mvl rfl <| ixs (Vs.sub ((pw).vs) J 2) ((List.drop J ((wordsL s 0).map toP)).take (((wordsL s 0).map toP).length - J)) 0 (Vs.sub_ok (Ow.vs_ok hpw) J (((wordsL s 0).map toP).length - J) 2 (by omega)) rfl (by simp) rfl uy94 ty97.sz rfl (by simp; omega) <| ldsoG 1 (toP (List.getD (wordsL s 0) J (0, []))) hpw rfl rfl rfl (by have HPC := hpw.le; exact sub_off (n := 2) (by omega)) (wp_at (by omega)) ty97 <| alo [pt ([] : Str), pt (0 : Int)] _ z97 rfl fun b14 => ⟨trivial, ?_⟩
         refine stw 6 _ [pt (List.getD (wordsL s 0) J (0, [])).2, pt ((List.getD (wordsL s 0) J (0, [])).1 : Int)] rfl rfl rfl rfl ty97 ⟨trivial, ?_⟩
         refine jsr <| mvl rfl <| sli (Vs.sub pw.vs J 2) 1 (((wordsL s 0).map toP).length - J) rfl uy94 ty97.sz ⟨_, rfl⟩ rfl (by omega) (by show _ ≤ pw.cap - J; have := hpw.le; omega) (by show _ ≤ pw.cap - J; have := hpw.le; omega) <| agl rfl <| jt <| c_seq <| csr <| mvs rfl <| scmp (a := (List.getD KN i [])) (b := ([99, 111, 110, 116, 101, 110, 116] : Str)) _ rfl rfl uy9 rfl <| jt <| c_cond rfl (fun h8 => ?_) (fun h8 => ?_)
         ·replace h8 := of_decide_eq_true h8
          refine csr <| mvs rfl <| fad rfl uy97 rfl ty3.sz <| ldp 6 1 _ rfl rfl rfl rfl ty3 <| cutT (s := s) ((List.getD (wordsL s 0) J (0, [])).1) s.length rfl uy9 ⟨_, rfl⟩ rfl (by first | omega | (simp; done) | (simp; omega)) (by first | omega | (simp; done) | (simp; omega)) (List.drop ((List.getD (wordsL s 0) J (0, [])).1) s) (cut_hi _ _) <| fad rfl uy97 rfl ty9.sz <| stp 6 0 _ (pt (List.drop ((List.getD (wordsL s 0) J (0, [])).1) s)) rfl rfl rfl rfl rfl rfl ty9 ⟨trivial, ?_⟩
          refine agl rfl <| jsr <| fad rfl uy97 rfl ty9.sz <| ldp 6 0 _ rfl rfl rfl rfl ty9 <| cal (Parse_ct (List.drop ((List.getD (wordsL s 0) J (0, [])).1) s) (by rw [List.length_drop]; omega) eu ev ru rv) [] [0, 1, 2, 3, 4, 5, 6] [_, _, _, _, _, _, _] rfl rfl rfl (by kernel_rfl) (impl_cons (impl_at 0 rfl) (impl_cons (impl_at 1 rfl) (impl_cons (impl_at 2 rfl) (impl_cons (impl_at 3 rfl) impl_nil)))) rfl ?_; rintro _ _ _ (⟨pc1, pm1, po1, pq1, hpA1, hpm1, hpo1, rfl, rfl, rfl⟩ | ⟨pq1, hpB1, rfl, rfl, rfl⟩)
          ·refine ⟨trivial, ?_⟩
           refine mv (.tuple _) rfl <| xtr (.agg _) rfl rfl <| xtr (.int _ _) rfl rfl <| xtr (.int _ _) rfl rfl <| alo [pt (0 : Int), pt ([] : Str), p1 (.slice none 0 0), pt (⟨0⟩ : F64), pt (⟨0⟩ : F64), pt (0 : UInt64), pt (zarr : (Arr UInt8 32))] _ z76 rfl fun b15 => ⟨trivial, ?_⟩
           refine stw 8 _ [pt pc1.kind, pt pc1.text, p1 (.slice po1.adr pm1.length po1.cap), pt pc1.lat, pt pc1.long, pt pc1.number, pt pc1.key] rfl rfl rfl rfl ty76 ⟨trivial, ?_⟩
           refine agi rfl <| agi rfl <| jsr <| mvi rfl <| cmp false rfl rfl rfl <| jt <| c_false rfl <| c_skip <| e_then <| c_reg <| fad rfl uy39 rfl ty37.sz <| ldp 3 2 _ rfl rfl rfl rfl ty37 <| fad rfl uy97 rfl ty9.sz <| ldp 6 0 _ rfl rfl rfl rfl ty9 <| bsl (α := Str) ([(List.drop ((List.getD (wordsL s 0) J (0, [])).1) s)]) uy37 ty9.sz rfl (by decide) z9 rfl fun b124 => ⟨trivial, ?_⟩
           refine app 5 o acc ([(List.drop ((List.getD (wordsL s 0) J (0, [])).1) s)] : List Str) hI1.2.2.1 rfl ⟨rfl, rfl, rfl⟩ rfl rfl (gives_own (ys := ([(List.drop ((List.getD (wordsL s 0) J (0, [])).1) s)] : List Str)) (pre := []) (post := []) 9 rfl (by simp) rfl) uy37 uy37 (.inl ⟨_, rfl⟩) ty9.sz by9 z9 rfl (by simp; omega) rfl fun o125_2 hk125_2 => ⟨trivial, ?_⟩
           refine fad rfl uy39 rfl ty37.sz <| stp 3 2 _ (p1 (.slice o125_2.adr (acc ++ ([(List.drop ((List.getD (wordsL s 0) J (0, [])).1) s)] : List Str)).length o125_2.cap)) rfl rfl rfl rfl rfl rfl ty37 ⟨trivial, ?_⟩
           refine jn <| e_in <| e_then <| c_reg <| addi rfl rfl rfl (by omega) <| mvi rfl <| jn <| e_keep [0, 1, 2, 3, 4, 5] [6, 7, 8, 9] [_, _, _, _, _, _] rfl (by kernel_rfl) ?_
           exact e_loop (i + 1, ((wordsL s 0).map toP).length, (acc ++ ([(List.drop ((List.getD (wordsL s 0) J (0, [])).1) s)] : List Str)), o125_2, none, 0) (by dsimp only; exact ⟨by omega, Nat.le_refl _, hk125_2, by simp; omega, (fun hh => absurd hh (by omega)), HE1.trans (by rw [knd28_last hkk (by omega) (by assumption), show List.drop ((wordsL s 0).map toP).length (wordsL s 0) = [] from List.drop_of_length_le (by rw [wp_ln]; exact Nat.le_refl _)]; rw [drop_kU8 (by omega), drop_g (0, []) (by omega)]; exact argl_cok (by rw [show List.getD KN i [] = _ by assumption]; exact kU28_content) hpA1)⟩) (by show KN.length - (i + 1) < KN.length - i; omega) (⟨rfl, (by show Value.slice none 0 0 = Value.slice none (((wordsL s 0).map toP).length - ((wordsL s 0).map toP).length) 0; rw [Nat.sub_self]), trivial⟩) rfl rfl rfl
          ·have hpC1 := parseR_le hpB1; rw [List.length_drop] at hpC1; refine ⟨trivial, ?_⟩
           refine mv (.tuple _) rfl <| xtr (.agg _) rfl rfl <| xtr (.int _ _) rfl rfl <| xtr (.int _ _) rfl rfl <| alo [pt (0 : Int), pt ([] : Str), p1 (.slice none 0 0), pt (⟨0⟩ : F64), pt (⟨0⟩ : F64), pt (0 : UInt64), pt (zarr : (Arr UInt8 32))] _ z76 rfl fun b15 => ⟨trivial, ?_⟩
           refine stw 7 _ [pt (0 : Int), pt ([] : Str), p1 (.slice none 0 0), pt (⟨0⟩ : F64), pt (⟨0⟩ : F64), pt (0 : UInt64), pt (zarr : (Arr UInt8 32))] rfl rfl rfl rfl ty76 ⟨trivial, ?_⟩
           refine agi rfl <| agi rfl <| jsr <| mvi rfl <| cmp true rfl rfl rfl <| jt <| c_true rfl <| c_seq <| c_dr [_, _, _, _, _, _, _, _, _, _, _, _] [] [(0, 0), (1, 0), (2, 0), (3, 0), (4, 0), (5, 0), (6, 1), (7, 0), (8, 0)] follows (by kernel_rfl) calm_body (keepS [1, 2, 3, 4, 5, 6, 7, 8, 9, 10, 11, 12] rfl) <| bld [pt (0 : Int), pt ([] : Str), p1 (.slice none 0 0)] [] _ uy39 (lay39 _ uy39) z39 rfl rfl rfl <| fad rfl uy97 rfl ty3.sz <| ldp 5 1 _ rfl rfl rfl rfl ty3 <| mvi rfl <| addi rfl rfl rfl (by omega) <| mvi rfl <| stw 0 _ [pt (0 : Int), pt ([] : Str), p1 (.slice none 0 0)] rfl rfl rfl rfl ty39 ⟨keepI [1, 2, 3, 4, 5, 6, 7, 8, 9, 10, 11, 12] rfl, ?_⟩
           refine agi rfl <| agi rfl <| jt <| c_ret ?_
           exact j_d (own0 := []) (ro0 := [tPow10 9, tDb64 11, tIf 7 eu ev, tIf 8 ru rv, tAsc 1]) (.inl rfl) rfl (hr3 Tryz.results24 (rvc (p := pa [pt (0 : Int), pt ([] : Str), p1 (.slice none 0 0)]) 0 rfl rfl rfl ty39) (rvt (v := (.int _ _)) rfl) (rvt (v := (.int _ _)) rfl)) [0, 1, 2, 3, 4, 5, 6, 7] [_, _, _, _, _, _, _, _] rfl (by kernel_rfl) rfl (.inr (.inr ⟨_, 90, line_bad (by omega) hw (by assumption) (by omega) HSF (bne_f (by assumption)) (HE1.trans (by rw [drop_kU8 (by omega), drop_g (0, []) (by omega)]; exact argl_cbad (by rw [show List.getD KN i [] = _ by assumption]; exact kU28_content) hpB1)), by decide, by omega, rfl, rfl, rfl⟩))
         ·replace h8 := of_decide_eq_false h8
          refine csr <| mvs rfl <| fad rfl uy97 rfl ty9.sz <| ldp 6 0 _ rfl rfl rfl rfl ty9 <| cal (pfits_ct (List.getD KN i []) ((List.getD (wordsL s 0) J (0, [])).2) (knd28_mem hkk (by omega)) (by assumption) (by omega) (by omega)) [] [0, 1, 2, 3, 4, 5, 6] [_, _, _, _, _, _, _] rfl rfl rfl (by kernel_rfl) impl_nil rfl ?_; rintro _ _ _ ⟨rfl, rfl, rfl⟩; refine ⟨trivial, ?_⟩
          refine not_ rfl <| jt <| c_cond rfl (fun h9 => ?_) (fun h9 => ?_)
          ·refine c_seq <| c_dr [_, _, _, _, _, _, _, _, _, _, _] [] [(0, 0), (1, 0), (2, 0), (3, 1), (4, 0), (5, 0)] follows (by kernel_rfl) calm_body (keepS [1, 2, 3, 4, 5, 6, 7, 8, 9, 10, 11] rfl) <| bld [pt (0 : Int), pt ([] : Str), p1 (.slice none 0 0)] [] _ uy39 (lay39 _ uy39) z39 rfl rfl rfl <| fad rfl uy97 rfl ty3.sz <| ldp 5 1 _ rfl rfl rfl rfl ty3 <| stw 0 _ [pt (0 : Int), pt ([] : Str), p1 (.slice none 0 0)] rfl rfl rfl rfl ty39 ⟨keepI [1, 2, 3, 4, 5, 6, 7, 8, 9, 10, 11] rfl, ?_⟩
           refine agi rfl <| agi rfl <| jt <| c_ret ?_
           exact j_d (own0 := []) (ro0 := [tPow10 9, tDb64 11, tIf 7 eu ev, tIf 8 ru rv, tAsc 1]) (.inl rfl) rfl (hr3 Tryz.results24 (rvc (p := pa [pt (0 : Int), pt ([] : Str), p1 (.slice none 0 0)]) 0 rfl rfl rfl ty39) (rvt (v := (.int _ _)) rfl) (rvt (v := (.int _ _)) rfl)) [0, 1, 2, 3, 4, 5, 6] [_, _, _, _, _, _, _] rfl (by kernel_rfl) rfl (.inr (.inr ⟨_, 280, line_bad (by omega) hw (by assumption) (by omega) HSF (bne_f (by assumption)) (HE1.trans (by rw [drop_kU8 (by omega), drop_g (0, []) (by omega)]; exact argl_no (kU28_ne (knd28_mem hkk (by omega)) (by assumption)) (notT (by assumption)))), by decide, by omega, rfl, rfl, rfl⟩))
          ·refine c_skip <| e_then <| c_reg <| fad rfl uy39 rfl ty37.sz <| ldp 3 2 _ rfl rfl rfl rfl ty37 <| fad rfl uy97 rfl ty9.sz <| ldp 6 0 _ rfl rfl rfl rfl ty9 <| bsl (α := Str) ([(List.getD (wordsL s 0) J (0, [])).2]) uy37 ty9.sz rfl (by decide) z9 rfl fun b124 => ⟨trivial, ?_⟩
           refine app 5 o acc ([(List.getD (wordsL s 0) J (0, [])).2] : List Str) hI1.2.2.1 rfl ⟨rfl, rfl, rfl⟩ rfl rfl (gives_own (ys := ([(List.getD (wordsL s 0) J (0, [])).2] : List Str)) (pre := []) (post := []) 7 rfl (by simp) rfl) uy37 uy37 (.inl ⟨_, rfl⟩) ty9.sz by9 z9 rfl (by simp; omega) rfl fun o125_3 hk125_3 => ⟨trivial, ?_⟩
           refine fad rfl uy39 rfl ty37.sz <| stp 3 2 _ (p1 (.slice o125_3.adr (acc ++ ([(List.getD (wordsL s 0) J (0, [])).2] : List Str)).length o125_3.cap)) rfl rfl rfl rfl rfl rfl ty37 ⟨trivial, ?_⟩
           refine jn <| e_in <| e_then <| c_reg <| addi rfl rfl rfl (by omega) <| mvi rfl <| jn <| e_keep [0, 1, 2, 3, 4, 5] [6, 7] [_, _, _, _, _, _] rfl (by kernel_rfl) ?_
           exact e_loop (i + 1, J + 1, (acc ++ ([(List.getD (wordsL s 0) J (0, [])).2] : List Str)), o125_3, (((Vs.sub pw.vs J 2)).sub 1 2).adr, (((Vs.sub pw.vs J 2)).sub 1 2).cap) (by dsimp only; exact ⟨by omega, by omega, hk125_3, by simp; omega, (fun hh => sub_sub (by have := hpw.le; omega)), HE1.trans (by rw [drop_kU8 (by omega), drop_g (0, []) (by omega)]; exact argl_yes (kU28_ne (knd28_mem hkk (by omega)) (by assumption)) (notF (by assumption)))⟩) (by show KN.length - (i + 1) < KN.length - i; omega) (⟨rfl, (by show Value.slice _ _ _ = Value.slice _ _ _; rw [Nat.sub_add_eq]), trivial⟩) rfl rfl rfl
       ·replace h6 := of_decide_eq_false h6
        refine c_exit rfl <| e_then <| c_seq <| csr <| mvl rfl <| lenS rfl uy94 <| cmp _ rfl rfl rfl <| jt <| c_cond rfl (fun h10 => ?_) (fun h10 => ?_)
        ·replace h10 := of_decide_eq_true h10
         refine c_seq ?_
         obtain ⟨rfl, rfl⟩ := HRA (by omega)
         have HRM := wp_mem (s := s) (j := J) (by omega)
         have HLW := wp_ln s
         refine c_dr [_, _, _, _, _, _, _, _, _, _] [] [(0, 0), (1, 0), (2, 0), (3, 0), (4, 0), (5, 1), (6, 0), (7, 0)] follows (by kernel_rfl) calm_body (keepS [1, 2, 3, 4, 5, 6, 7, 8, 9, 10] rfl) <| bld [pt (0 : Int), pt ([] : Str), p1 (.slice none 0 0)] [] _ uy39 (lay39 _ uy39) z39 rfl rfl rfl <| mvl rfl <| ixs (Vs.sub ((pw).vs) J 2) ((List.drop J ((wordsL s 0).map toP)).take (((wordsL s 0).map toP).length - J)) 0 (Vs.sub_ok (Ow.vs_ok hpw) J (((wordsL s 0).map toP).length - J) 2 (by omega)) rfl (by simp) rfl uy94 ty97.sz rfl (by simp; omega) <| fad rfl uy97 rfl ty3.sz <| ldsofG 0 1 (toP (List.getD (wordsL s 0) J (0, []))) _ hpw rfl rfl rfl (wp_at (by omega)) rfl (by have HPC := hpw.le; exact congrArg (· + 1) (sub_off (n := 2) (by omega))) ty3 <| stw 0 _ [pt (0 : Int), pt ([] : Str), p1 (.slice none 0 0)] rfl rfl rfl rfl ty39 ⟨keepI [1, 2, 3, 4, 5, 6, 7, 8, 9, 10] rfl, ?_⟩
         refine agi rfl <| agi rfl <| jt <| c_ret ?_
         exact j_d (own0 := []) (ro0 := [tPow10 9, tDb64 11, tIf 7 eu ev, tIf 8 ru rv, tAsc 1]) (.inl rfl) rfl (hr3 Tryz.results24 (rvc (p := pa [pt (0 : Int), pt ([] : Str), p1 (.slice none 0 0)]) 0 rfl rfl rfl ty39) (rvt (v := (.int _ _)) rfl) (rvt (v := (.int _ _)) rfl)) [0, 1, 2, 3, 4, 5] [_, _, _, _, _, _] rfl (by kernel_rfl) rfl (.inr (.inr ⟨_, 280, line_more (by omega) hw (by assumption) (by omega) HSF (bne_f (by assumption)) (HE1.trans (by rw [show List.drop i KN = [] from List.drop_of_length_le (by omega), drop_g (0, []) (show J < (wordsL s 0).length by rw [← wp_ln]; omega)]; rfl)), by decide, by omega, rfl, rfl, rfl⟩))
        ·replace h10 := of_decide_eq_false h10
         refine c_skip <| e_then <| csr <| ldw 3 _ rfl rfl ty39 <| stw 0 _ [pt (0 : Int), pt wd, p1 (.slice o.adr acc.length o.cap)] rfl rfl rfl rfl ty39 ⟨trivial, ?_⟩
         refine agi rfl <| agi rfl <| jt <| c_ret ?_
         exact j_end (own0 := []) (ro0 := [tPow10 9, tDb64 11, tIf 7 eu ev, tIf 8 ru rv, tAsc 1]) (.inl rfl) rfl (hr3 Tryz.results24 (rvc (p := pa [pt (0 : Int), pt wd, p1 (.slice o.adr acc.length o.cap)]) 0 rfl rfl rfl ty39) (rvt (v := (.int _ _)) rfl) (rvt (v := (.int _ _)) rfl)) [5] [0, 1, 2, 3, 4] [_] [_, _, _, _, _] [] _ rfl rfl (by kernel_rfl) rfl impl_nil (.inl ⟨wd, acc, o, line_ok (by omega) hw (by assumption) (by omega) HSF (bne_f (by assumption)) (HE1.trans (by rw [show List.drop i KN = [] from List.drop_of_length_le (by omega), show List.drop J (wordsL s 0) = [] from List.drop_of_length_le (by rw [← wp_ln]; omega)]; rfl)), hI1.2.2.1, by omega, by omega, (fun e => by rw [e] at HWM; simp at HWM), rfl, rfl, rfl⟩)
end Go.Proofs.YtakbbpahfclgnaaGreatDoor
namespace Go.Proofs.YtakbbpahfclgnaaGreatDoor
open Go Go.Proofs Go.PW
open Go.PW.Enc (enc val)
section
variable {fit : UInt8 → Str → Bool} {form : Str → Option (List UInt8)} {first : Str} {why : Nat} {l : Str} {ls : List Str} {i : Nat} {acc : List Cm}
theorem scr_cmd {w : Str} {a : List Str} (h : lineR fit form first why l acc.length = .inr (some (w, a))) : scriptL fit form first why (l :: ls) i acc = scriptL fit form first why ls (i + 1) (acc ++ [⟨i + 1, w, a⟩]) := by rw [scriptL, h]
theorem scr_none (h : lineR fit form first why l acc.length = .inr none) : scriptL fit form first why (l :: ls) i acc = scriptL fit form first why ls (i + 1) acc := by rw [scriptL, h]
theorem scr_bad {a e : Nat} (h : lineR fit form first why l acc.length = .inl (a, e)) : scriptL fit form first why (l :: ls) i acc = .inl (i + 1, a, e) := by rw [scriptL, h]
end
theorem lines_one {t : Str} (h0 : 0 < t.length) (h : ¬ idxN t 10 < t.length) : linesL t = t :: linesL [] := by rw [linesL_last h0 h, linesL_nil rfl]
theorem pos_ne {t : Str} (h : ¬ t = []) : 0 < t.length := by
  cases t with
  | nil => exact absurd rfl h
  | cons a r => simp
theorem PParse_ct (s : Str) (hs : s.length ≤ 140737488351232) (eu : TypeId) (ev : Value) (ru : TypeId) (rv : Value) : Ct Tryz.prog 11 [strV s] [] [tPow10 9, tDb64 11, tIf 7 eu ev, tIf 8 ru rv, tAsc 1] (fun v w r => (∃ (L : List CmdO) (o' : Ow), scriptR fit28 form28 [116, 111, 119, 110] 280 s = .inr (L.map CmdO.cm) ∧ okL L ∧ o'.ok (List.map CmdO.h L) ∧ L.length ≤ 400 ∧ (∀ c ∈ L, c.args.length ≤ 6) ∧ v = .tuple #[.slice o'.adr (List.map CmdO.h L).length o'.cap, .nilIface] ∧ w = [o'.seg (List.map CmdO.h L) 39, argsS 9 L] ∧ r = []) ∨ (∃ (f l a e : Nat), scriptR fit28 form28 [116, 111, 119, 110] 280 s = .inl (l, a, e) ∧ 0 < e ∧ v = .tuple #[.slice none 0 0, .iface 40 (.pointer (some ⟨f, 0, none⟩))] ∧ w = [[(f, .cells (cat [pt (l : Int), pt (a : Int), pt (e : Int)]) 29)]] ∧ r = [])) := by
 refine ct_enter Tryz.func11 rfl Tryz.ntmps11 (by kernel_rfl) rfl fun w0 => ?_
 refine csr <| agl rfl <| asg .nilIface rfl <| jt <| c_seq <| csr <| mvs rfl <| lenT (s := s) rfl uy9 <| cmp _ rfl rfl rfl <| jt <| c_cond rfl (fun h1 => ?_) (fun h1 => ?_)
 ·replace h1 := of_decide_eq_true h1
  refine csr <| bld [pt (0 : Int), pt (0 : Int), pt (0 : Int)] [(2, pt (2 : Int))] _ uy29 (lay29 _ uy29) z29 rfl rfl rfl <| bxx [pt (0 : Int), pt (0 : Int), pt (2 : Int)] _ rfl rfl fun b15 => ⟨trivial, ?_⟩
  refine mki (v := (.pointer _)) rfl uy40 rfl <| agl rfl <| asg (.iface _ _) rfl <| jt <| c_ret ?_
  exact j_end (own0 := []) (ro0 := [tPow10 9, tDb64 11, tIf 7 eu ev, tIf 8 ru rv, tAsc 1]) (.inl rfl) rfl (hr2 Tryz.results11 (rvt (v := (.slice _ _ _)) rfl) (rvt (v := (.iface _ _)) rfl)) [0] [] [_] [] [] _ rfl rfl (by kernel_rfl) rfl impl_nil (.inr ⟨b15, 0, 0, 2, scriptR_long (by omega), by decide, rfl, rfl, rfl⟩)
 ·replace h1 := of_decide_eq_false h1
  refine c_skip <| e_then <| csr <| agl rfl <| jsr <| agi rfl <| jt <| c_seq <| csr <| mvs rfl <| ags rfl <| jt <| c_block <| c_addE <| c_addE <| c_loop (σ := Nat × List CmdO × Ow × Str) (fun (i, L, o, t) => i + t.length ≤ s.length ∧ okL L ∧ o.ok (List.map CmdO.h L) ∧ L.length ≤ 400 ∧ (∀ c ∈ L, c.args.length ≤ 6) ∧ scriptL fit28 form28 [116, 111, 119, 110] 280 (linesL s) 0 [] = scriptL fit28 form28 [116, 111, 119, 110] 280 (linesL t) i (List.map CmdO.cm L)) (fun (i, L, o, t) => t.length) (fun (i, L, o, t) => [(5, .int .i64 (i : Int)), (4, .slice o.adr (List.map CmdO.h L).length o.cap), (6, strV t)]) (fun (i, L, o, t) => [o.seg (List.map CmdO.h L) 39, argsS 9 L]) (fun (i, L, o, t) => [tPow10 9, tDb64 11, tIf 7 eu ev, tIf 8 ru rv, tAsc 1]) [2, 3, 4, 5, 6, 7, 8, 9, 10, 18, 19, 20, 21, 22, 23, 24, 25, 26, 27, 28, 29, 30, 31, 32, 33, 34, 35, 36, 37, 38, 39, 40, 41, 42, 43, 44, 45, 46, 47, 48, 49, 50, 51, 52] (0, [], Ow.nil, s) (⟨by omega, (fun c hc => by cases hc), Ow.nil_ok, Nat.zero_le _, (fun c hc => by cases hc), rfl⟩) ⟨rfl, rfl, rfl, trivial⟩ rfl rfl ?_
  rintro ⟨i, L, o, t⟩ g1 hI1
  try dsimp only at hI1 ⊢
  have HL4 := hI1.2.2.2.1
  have HSC := hI1.2.2.2.2.2
  refine c_seq <| csr <| mvs rfl <| scmp (a := t) (b := ([] : Str)) _ rfl rfl uy9 rfl <| jt <| c_cond rfl (fun h2 => ?_) (fun h2 => ?_)
  ·replace h2 := ndt h2
   refine c_skip <| e_then <| c_block <| csr <| ags rfl <| jsr <| mvs rfl <| cal (sCutN_ct t (by omega)) [] [0, 1] [_, _] rfl rfl rfl (by kernel_rfl) impl_nil rfl ?_; rintro _ _ _ (⟨hcu1, rfl, rfl, rfl⟩ | ⟨hcu1, rfl, rfl, rfl⟩)
   ·refine ⟨trivial, ?_⟩
    refine mv (.tuple _) rfl <| xtr (.string _) rfl rfl <| xtr (.string _) rfl rfl <| xtr (.bool _) rfl rfl <| ags rfl <| ags rfl <| jt <| c_seq ?_
    have HT0 := pos_ne (t := t) (by assumption)
    have HIN := idxN_le t 10
    have HLN := linesL_cut hcu1
    have HTK : (List.take (idxN t 10) t).length ≤ 1000000 := by rw [List.length_take]; omega
    refine c_reg <| mvi rfl <| addi rfl rfl rfl (by omega) <| agi rfl <| jsr <| mvs rfl <| mvl rfl <| lenS rfl uy22 <| j_re 31 (.int .i64 (L.length : Int)) (congrArg (fun n : Nat => Value.int .i64 (n : Int)) (List.length_map ..)) <| cal (parsed_ct (List.take (idxN t 10) t) L.length (by omega) (by omega) eu ev ru rv) [] [0, 1] [_, _] rfl rfl rfl (by kernel_rfl) (impl_cons (impl_at 0 rfl) (impl_cons (impl_at 1 rfl) (impl_cons (impl_at 2 rfl) (impl_cons (impl_at 3 rfl) (impl_cons (impl_at 4 rfl) impl_nil))))) rfl ?_; rintro _ _ _ (⟨pwd2, pacc2, po2, hlc2, hlo2, hla2, hlw2, hne2, rfl, rfl, rfl⟩ | ⟨hln2, rfl, rfl, rfl⟩ | ⟨pa2, pe2, hlf2, hep2, hpa2, rfl, rfl, rfl⟩)
    ·have hln2 := line_lt hlc2; refine ⟨trivial, ?_⟩
     refine mv (.tuple _) rfl <| xtr (.agg _) rfl rfl <| xtr (.int _ _) rfl rfl <| xtr (.int _ _) rfl rfl <| alo [pt (0 : Int), pt ([] : Str), p1 (.slice none 0 0)] _ z39 rfl fun b8 => ⟨trivial, ?_⟩
     refine stw 3 _ [pt (0 : Int), pt pwd2, p1 (.slice po2.adr pacc2.length po2.cap)] rfl rfl rfl rfl ty39 ⟨trivial, ?_⟩
     refine agi rfl <| agi rfl <| jt <| c_seq <| csr <| mvi rfl <| cmp false rfl rfl rfl <| jt <| c_false rfl <| c_skip <| e_then <| csr <| fad rfl uy39 rfl ty9.sz <| ldp 3 1 _ rfl rfl rfl rfl ty9 <| scmp (a := pwd2) (b := ([] : Str)) _ rfl rfl uy9 rfl <| j_re 46 (.bool true) (congrArg Value.bool (by rw [decide_eq_false hne2]; rfl)) <| jt <| c_true rfl <| csr <| mvi rfl <| fad rfl uy39 rfl ty3.sz <| stp 3 0 _ (p1 (.int .i64 ((i : Int) + 1))) rfl rfl rfl rfl rfl rfl ty3 ⟨trivial, ?_⟩
     refine jr <| mvl rfl <| ldw 3 _ rfl rfl ty39 <| bsl (α := CmdH) ([CmdO.h ⟨i + 1, pwd2, pacc2, po2⟩]) uy22 ty39.sz rfl (by decide) z39 rfl fun b51 => ⟨trivial, ?_⟩
     refine app 0 o (List.map CmdO.h L) ([CmdO.h ⟨i + 1, pwd2, pacc2, po2⟩] : List CmdH) hI1.2.2.1 rfl ⟨rfl, rfl, rfl⟩ rfl rfl (gives_own (ys := ([CmdO.h ⟨i + 1, pwd2, pacc2, po2⟩] : List CmdH)) (pre := []) (post := []) 4 rfl (by simp) rfl) uy22 uy22 (.inl ⟨_, rfl⟩) ty39.sz by39 z39 rfl (by simp; omega) rfl fun o52_3 hk52_3 => ⟨trivial, ?_⟩
     refine agl rfl <| jn <| e_in <| e_keep [0, 1, 2] [3, 4] [_, _, _] rfl (by kernel_rfl) <| e_part (own' := [o52_3.seg ((List.map CmdO.h L) ++ ([CmdO.h ⟨i + 1, pwd2, pacc2, po2⟩] : List CmdH)) 39, argsS 9 (L ++ [⟨i + 1, pwd2, pacc2, po2⟩])]) (List.Perm.of_eq (by rw [argsS_app]; simp)) ?_
     exact e_loop (i + 1, L ++ [⟨i + 1, pwd2, pacc2, po2⟩], o52_3, (List.drop (idxN t 10 + 1) t)) (by dsimp only; exact ⟨(by show i + 1 + _ ≤ _; first | (rw [List.length_drop]; omega) | (show i + 1 + 0 ≤ _; omega)), okL_app hI1.2.1 hlo2, (by rw [List.map_append]; exact hk52_3), (by simp; omega), (fun c hc => by rcases List.mem_append.1 hc with hc | hc; exact hI1.2.2.2.2.1 c hc; rw [List.mem_singleton] at hc; subst hc; exact hla2), HSC.trans (by rw [HLN]; exact (scr_cmd (by rw [List.length_map]; exact hlc2)).trans (by rw [List.map_append]; rfl))⟩) (by show List.length _ < t.length; first | (rw [List.length_drop]; omega) | exact HT0) (⟨rfl, (by rw [List.map_append]; rfl), rfl, trivial⟩) rfl (by rw [List.map_append]; rfl) rfl
    ·refine ⟨trivial, ?_⟩
     refine mv (.tuple _) rfl <| xtr (.agg _) rfl rfl <| xtr (.int _ _) rfl rfl <| xtr (.int _ _) rfl rfl <| alo [pt (0 : Int), pt ([] : Str), p1 (.slice none 0 0)] _ z39 rfl fun b8 => ⟨trivial, ?_⟩
     refine stw 2 _ [pt (0 : Int), pt ([] : Str), p1 (.slice none 0 0)] rfl rfl rfl rfl ty39 ⟨trivial, ?_⟩
     refine agi rfl <| agi rfl <| jt <| c_seq <| csr <| mvi rfl <| cmp false rfl rfl rfl <| jt <| c_false rfl <| c_skip <| e_then <| csr <| fad rfl uy39 rfl ty9.sz <| ldp 2 1 _ rfl rfl rfl rfl ty9 <| scmp (a := ([] : Str)) (b := ([] : Str)) false rfl rfl uy9 (by decide) <| jt <| c_false rfl <| c_skip <| e_in <| e_keep [0, 1] [2] [_, _] rfl (by kernel_rfl) ?_
     exact e_loop (i + 1, L, o, (List.drop (idxN t 10 + 1) t)) (by dsimp only; exact ⟨(by show i + 1 + _ ≤ _; first | (rw [List.length_drop]; omega) | (show i + 1 + 0 ≤ _; omega)), hI1.2.1, hI1.2.2.1, hI1.2.2.2.1, hI1.2.2.2.2.1, HSC.trans (by rw [HLN]; exact scr_none (by rw [List.length_map]; exact hln2))⟩) (by show List.length _ < t.length; first | (rw [List.length_drop]; omega) | exact HT0) (⟨rfl, rfl, rfl, trivial⟩) rfl rfl rfl
    ·have hnz2 : ((pe2 : Nat) : Int) ≠ 0 := (by omega); refine ⟨trivial, ?_⟩
     refine mv (.tuple _) rfl <| xtr (.agg _) rfl rfl <| xtr (.int _ _) rfl rfl <| xtr (.int _ _) rfl rfl <| alo [pt (0 : Int), pt ([] : Str), p1 (.slice none 0 0)] _ z39 rfl fun b8 => ⟨trivial, ?_⟩
     refine stw 2 _ [pt (0 : Int), pt ([] : Str), p1 (.slice none 0 0)] rfl rfl rfl rfl ty39 ⟨trivial, ?_⟩
     refine agi rfl <| agi rfl <| jt <| c_seq <| csr <| mvi rfl <| cmp true rfl rfl (by simp only [cmpV, hnz2]; simp) <| jt <| c_true rfl <| csr <| mvi rfl <| mvi rfl <| mvi rfl <| bld [pt (0 : Int), pt (0 : Int), pt (0 : Int)] [(0, p1 (.int .i64 ((i : Int) + 1))), (1, p1 (.int .i64 (pa2 : Int))), (2, p1 (.int .i64 ((pe2 : Nat) : Int)))] _ uy29 (lay29 _ uy29) z29 rfl rfl rfl <| bxx [p1 (.int .i64 ((i : Int) + 1)), p1 (.int .i64 (pa2 : Int)), p1 (.int .i64 ((pe2 : Nat) : Int))] _ rfl rfl fun b42 => ⟨trivial, ?_⟩
     refine mki (v := (.pointer _)) rfl uy40 rfl <| agl rfl <| asg (.iface _ _) rfl <| jt <| c_ret ?_
     exact j_end (own0 := []) (ro0 := [tPow10 9, tDb64 11, tIf 7 eu ev, tIf 8 ru rv, tAsc 1]) (.inl rfl) rfl (hr2 Tryz.results11 (rvt (v := (.slice _ _ _)) rfl) (rvt (v := (.iface _ _)) rfl)) [3] [0, 1, 2] [_] [_, _, _] [] _ rfl rfl (by kernel_rfl) rfl impl_nil (.inr ⟨b42, i + 1, _, _, (scriptR_in (by omega)).trans (HSC.trans (by rw [HLN]; exact scr_bad (by rw [List.length_map]; exact hlf2))), hep2, rfl, rfl, rfl⟩)
   ·refine ⟨trivial, ?_⟩
    refine mv (.tuple _) rfl <| xtr (.string _) rfl rfl <| xtr (.string _) rfl rfl <| xtr (.bool _) rfl rfl <| ags rfl <| ags rfl <| jt <| c_seq ?_
    have HT0 := pos_ne (t := t) (by assumption)
    have HIN := idxN_le t 10
    have HLN := lines_one HT0 hcu1
    refine c_reg <| mvi rfl <| addi rfl rfl rfl (by omega) <| agi rfl <| jsr <| mvs rfl <| mvl rfl <| lenS rfl uy22 <| j_re 31 (.int .i64 (L.length : Int)) (congrArg (fun n : Nat => Value.int .i64 (n : Int)) (List.length_map ..)) <| cal (parsed_ct t L.length (by omega) (by omega) eu ev ru rv) [] [0, 1] [_, _] rfl rfl rfl (by kernel_rfl) (impl_cons (impl_at 0 rfl) (impl_cons (impl_at 1 rfl) (impl_cons (impl_at 2 rfl) (impl_cons (impl_at 3 rfl) (impl_cons (impl_at 4 rfl) impl_nil))))) rfl ?_; rintro _ _ _ (⟨pwd4, pacc4, po4, hlc4, hlo4, hla4, hlw4, hne4, rfl, rfl, rfl⟩ | ⟨hln4, rfl, rfl, rfl⟩ | ⟨pa4, pe4, hlf4, hep4, hpa4, rfl, rfl, rfl⟩)
    ·have hln4 := line_lt hlc4; refine ⟨trivial, ?_⟩
     refine mv (.tuple _) rfl <| xtr (.agg _) rfl rfl <| xtr (.int _ _) rfl rfl <| xtr (.int _ _) rfl rfl <| alo [pt (0 : Int), pt ([] : Str), p1 (.slice none 0 0)] _ z39 rfl fun b8 => ⟨trivial, ?_⟩
     refine stw 3 _ [pt (0 : Int), pt pwd4, p1 (.slice po4.adr pacc4.length po4.cap)] rfl rfl rfl rfl ty39 ⟨trivial, ?_⟩
     refine agi rfl <| agi rfl <| jt <| c_seq <| csr <| mvi rfl <| cmp false rfl rfl rfl <| jt <| c_false rfl <| c_skip <| e_then <| csr <| fad rfl uy39 rfl ty9.sz <| ldp 3 1 _ rfl rfl rfl rfl ty9 <| scmp (a := pwd4) (b := ([] : Str)) _ rfl rfl uy9 rfl <| j_re 46 (.bool true) (congrArg Value.bool (by rw [decide_eq_false hne4]; rfl)) <| jt <| c_true rfl <| csr <| mvi rfl <| fad rfl uy39 rfl ty3.sz <| stp 3 0 _ (p1 (.int .i64 ((i : Int) + 1))) rfl rfl rfl rfl rfl rfl ty3 ⟨trivial, ?_⟩
     refine jr <| mvl rfl <| ldw 3 _ rfl rfl ty39 <| bsl (α := CmdH) ([CmdO.h ⟨i + 1, pwd4, pacc4, po4⟩]) uy22 ty39.sz rfl (by decide) z39 rfl fun b51 => ⟨trivial, ?_⟩
     refine app 0 o (List.map CmdO.h L) ([CmdO.h ⟨i + 1, pwd4, pacc4, po4⟩] : List CmdH) hI1.2.2.1 rfl ⟨rfl, rfl, rfl⟩ rfl rfl (gives_own (ys := ([CmdO.h ⟨i + 1, pwd4, pacc4, po4⟩] : List CmdH)) (pre := []) (post := []) 4 rfl (by simp) rfl) uy22 uy22 (.inl ⟨_, rfl⟩) ty39.sz by39 z39 rfl (by simp; omega) rfl fun o52_5 hk52_5 => ⟨trivial, ?_⟩
     refine agl rfl <| jn <| e_in <| e_keep [0, 1, 2] [3, 4] [_, _, _] rfl (by kernel_rfl) <| e_part (own' := [o52_5.seg ((List.map CmdO.h L) ++ ([CmdO.h ⟨i + 1, pwd4, pacc4, po4⟩] : List CmdH)) 39, argsS 9 (L ++ [⟨i + 1, pwd4, pacc4, po4⟩])]) (List.Perm.of_eq (by rw [argsS_app]; simp)) ?_
     exact e_loop (i + 1, L ++ [⟨i + 1, pwd4, pacc4, po4⟩], o52_5, ([] : Str)) (by dsimp only; exact ⟨(by show i + 1 + _ ≤ _; first | (rw [List.length_drop]; omega) | (show i + 1 + 0 ≤ _; omega)), okL_app hI1.2.1 hlo4, (by rw [List.map_append]; exact hk52_5), (by simp; omega), (fun c hc => by rcases List.mem_append.1 hc with hc | hc; exact hI1.2.2.2.2.1 c hc; rw [List.mem_singleton] at hc; subst hc; exact hla4), HSC.trans (by rw [HLN]; exact (scr_cmd (by rw [List.length_map]; exact hlc4)).trans (by rw [List.map_append]; rfl))⟩) (by show List.length _ < t.length; first | (rw [List.length_drop]; omega) | exact HT0) (⟨rfl, (by rw [List.map_append]; rfl), rfl, trivial⟩) rfl (by rw [List.map_append]; rfl) rfl
    ·refine ⟨trivial, ?_⟩
     refine mv (.tuple _) rfl <| xtr (.agg _) rfl rfl <| xtr (.int _ _) rfl rfl <| xtr (.int _ _) rfl rfl <| alo [pt (0 : Int), pt ([] : Str), p1 (.slice none 0 0)] _ z39 rfl fun b8 => ⟨trivial, ?_⟩
     refine stw 2 _ [pt (0 : Int), pt ([] : Str), p1 (.slice none 0 0)] rfl rfl rfl rfl ty39 ⟨trivial, ?_⟩
     refine agi rfl <| agi rfl <| jt <| c_seq <| csr <| mvi rfl <| cmp false rfl rfl rfl <| jt <| c_false rfl <| c_skip <| e_then <| csr <| fad rfl uy39 rfl ty9.sz <| ldp 2 1 _ rfl rfl rfl rfl ty9 <| scmp (a := ([] : Str)) (b := ([] : Str)) false rfl rfl uy9 (by decide) <| jt <| c_false rfl <| c_skip <| e_in <| e_keep [0, 1] [2] [_, _] rfl (by kernel_rfl) ?_
     exact e_loop (i + 1, L, o, ([] : Str)) (by dsimp only; exact ⟨(by show i + 1 + _ ≤ _; first | (rw [List.length_drop]; omega) | (show i + 1 + 0 ≤ _; omega)), hI1.2.1, hI1.2.2.1, hI1.2.2.2.1, hI1.2.2.2.2.1, HSC.trans (by rw [HLN]; exact scr_none (by rw [List.length_map]; exact hln4))⟩) (by show List.length _ < t.length; first | (rw [List.length_drop]; omega) | exact HT0) (⟨rfl, rfl, rfl, trivial⟩) rfl rfl rfl
    ·have hnz4 : ((pe4 : Nat) : Int) ≠ 0 := (by omega); refine ⟨trivial, ?_⟩
     refine mv (.tuple _) rfl <| xtr (.agg _) rfl rfl <| xtr (.int _ _) rfl rfl <| xtr (.int _ _) rfl rfl <| alo [pt (0 : Int), pt ([] : Str), p1 (.slice none 0 0)] _ z39 rfl fun b8 => ⟨trivial, ?_⟩
     refine stw 2 _ [pt (0 : Int), pt ([] : Str), p1 (.slice none 0 0)] rfl rfl rfl rfl ty39 ⟨trivial, ?_⟩
     refine agi rfl <| agi rfl <| jt <| c_seq <| csr <| mvi rfl <| cmp true rfl rfl (by simp only [cmpV, hnz4]; simp) <| jt <| c_true rfl <| csr <| mvi rfl <| mvi rfl <| mvi rfl <| bld [pt (0 : Int), pt (0 : Int), pt (0 : Int)] [(0, p1 (.int .i64 ((i : Int) + 1))), (1, p1 (.int .i64 (pa4 : Int))), (2, p1 (.int .i64 ((pe4 : Nat) : Int)))] _ uy29 (lay29 _ uy29) z29 rfl rfl rfl <| bxx [p1 (.int .i64 ((i : Int) + 1)), p1 (.int .i64 (pa4 : Int)), p1 (.int .i64 ((pe4 : Nat) : Int))] _ rfl rfl fun b42 => ⟨trivial, ?_⟩
     refine mki (v := (.pointer _)) rfl uy40 rfl <| agl rfl <| asg (.iface _ _) rfl <| jt <| c_ret ?_
     exact j_end (own0 := []) (ro0 := [tPow10 9, tDb64 11, tIf 7 eu ev, tIf 8 ru rv, tAsc 1]) (.inl rfl) rfl (hr2 Tryz.results11 (rvt (v := (.slice _ _ _)) rfl) (rvt (v := (.iface _ _)) rfl)) [3] [0, 1, 2] [_] [_, _, _] [] _ rfl rfl (by kernel_rfl) rfl impl_nil (.inr ⟨b42, i + 1, _, _, (scriptR_in (by omega)).trans (HSC.trans (by rw [HLN]; exact scr_bad (by rw [List.length_map]; exact hlf4))), hep4, rfl, rfl, rfl⟩)
  ·replace h2 := ndf h2
   refine c_exit rfl <| e_then <| csr <| mvl rfl <| agl rfl <| asg .nilIface rfl <| jt <| c_ret ?_
   exact j_end (own0 := []) (ro0 := [tPow10 9, tDb64 11, tIf 7 eu ev, tIf 8 ru rv, tAsc 1]) (.inl rfl) rfl (hr2 Tryz.results11 (rvt (v := (.slice _ _ _)) rfl) (rvt (v := .nilIface) rfl)) [0, 1] [] [_, _] [] [] _ rfl rfl (by kernel_rfl) rfl impl_nil (.inl ⟨L, o, (scriptR_in (by omega)).trans (HSC.trans (by rw [show t = [] by assumption, linesL_nil rfl]; rfl)), hI1.2.1, hI1.2.2.1, HL4, hI1.2.2.2.2.1, rfl, rfl, rfl⟩)
end Go.Proofs.YtakbbpahfclgnaaGreatDoor
namespace Go.Proofs.YtakbbpahfclgnaaGreatDoor
open Go Go.Proofs Go.PW
open Go.PW.Enc (enc val)
theorem r28fits_ct (w : Str) (k : UInt8) (hk : k ∈ lets28) (hc : ¬ k = 99) (h0 : 0 < w.length) (hw : w.length ≤ 1000000) : Ct Tryz.prog 46 [strV w, .int .u8 (k.toNat : Int)] [] [] (fun v o r => v = .bool (fit28 k w) ∧ o = [] ∧ r = []) := by
  simp only [lets28, List.mem_cons, List.not_mem_nil, or_false] at hk
  rcases hk with rfl | rfl | rfl | rfl | rfl | rfl | rfl | rfl | rfl
  · exact r28fits_version w h0 hw
  · exact r28fits_skip w h0 hw
  · exact r28fits_store w h0 hw
  · exact r28fits_number w h0 hw
  · exact r28fits_name w h0 hw
  · exact r28fits_group w h0 hw
  · exact r28fits_digit w h0 hw
  · exact r28fits_seed w h0 hw
  · exact absurd rfl hc
theorem command28_ct (s : Str) (W : Vs) (n a0 : Nat) (wd : Str) (r : List (Nat × Str)) (hW : W.ok ((wordsL s 0).map toW)) (hw : wordsL s 0 = (a0, wd) :: r) (hs : s.length ≤ 4000) (hn : n < 400) (h35 : ¬ List.getD wd 0 0 = 35) : Ct Tryz.prog 25 [strV s, .slice W.adr ((wordsL s 0).map toW).length W.cap, .int .i64 (n : Int)] [] [W.seg ((wordsL s 0).map toW), tPow10 9, tDb64 11] (fun v w q => (∃ (acc : List Str) (o' : Ow), lineR fit28 form28 [116, 111, 119, 110] 280 s n = .inr (some (wd, acc)) ∧ o'.ok acc ∧ acc.length ≤ 6 ∧ v = .tuple #[.slice o'.adr acc.length o'.cap, .int .i64 0, .int .i64 0] ∧ w = [o'.seg acc 9] ∧ q = []) ∨ (∃ (a e : Nat), lineR fit28 form28 [116, 111, 119, 110] 280 s n = .inl (a, e) ∧ 0 < e ∧ a ≤ 10000 ∧ v = .tuple #[.slice none 0 0, .int .i64 (a : Int), .int .i64 (e : Int)] ∧ w = [] ∧ q = [])) := by
 have HWL := ws_len hw
 have HW0 := wordsL_mem s.length s 0 (by omega) (a0, wd) (by rw [hw]; exact List.mem_cons_self ..)
 dsimp only at HW0
 refine ct_enter Tryz.func25 rfl Tryz.ntmps25 (by kernel_rfl) rfl fun w0 => ?_
 refine csr <| agl rfl <| agi rfl <| agi rfl <| jsr <| mvl rfl <| ixs W ((wordsL s 0).map toW) 0 hW rfl rfl rfl uy46 ty49.sz rfl (by rw [ws_len hw]; omega) <| fad rfl uy49 rfl ty9.sz <| ldvsfG 0 1 (toW (a0, wd)) _ hW rfl rfl rfl (by rw [hw]; rfl) rfl rfl ty9 <| cal (Form28_ct wd) [] [] [] rfl rfl rfl (by kernel_rfl) impl_nil rfl ?_; rintro _ _ _ ⟨rfl, rfl, rfl⟩; refine ⟨trivial, ?_⟩
 refine ags rfl <| jt <| c_seq <| csr <| mvl rfl <| ixs W ((wordsL s 0).map toW) 0 hW rfl rfl rfl uy46 ty49.sz rfl (by rw [ws_len hw]; omega) <| fad rfl uy49 rfl ty9.sz <| ldvsfG 0 1 (toW (a0, wd)) _ hW rfl rfl rfl (by rw [hw]; rfl) rfl rfl ty9 <| cal (known_ct wd) [] [] [] rfl rfl rfl (by kernel_rfl) impl_nil rfl ?_; rintro _ _ _ ⟨rfl, rfl, rfl⟩; refine ⟨trivial, ?_⟩
 refine not_ rfl <| mvb rfl <| jsplit 28 rfl (fun h1 => ?_) (fun h1 => ?_)
 ·refine g_off rfl rfl rfl rfl <| g_off rfl rfl rfl rfl <| g_off rfl rfl rfl rfl <| g_off rfl rfl rfl rfl <| g_off rfl rfl rfl rfl <| g_off rfl rfl rfl rfl <| g_off rfl rfl rfl rfl <| g_off rfl rfl rfl rfl <| pkt (.bool _) rfl rfl <| jt <| c_true rfl <| c_seq <| c_dr [_, _, _] [] [(0, 0), (1, 0), (2, 0), (3, 0), (4, 0), (5, 0), (6, 0)] follows (by kernel_rfl) calm_body (keepS [0, 1, 2] rfl) <| mvl rfl <| ixs W ((wordsL s 0).map toW) 0 hW rfl rfl rfl uy46 ty49.sz rfl (by rw [ws_len hw]; omega) <| fad rfl uy49 rfl ty3.sz <| ldvsfG 0 0 (toW (a0, wd)) _ hW rfl rfl rfl (by rw [hw]; rfl) rfl rfl ty3 <| agl rfl <| agi rfl <| agi rfl <| jt <| c_ret ?_
  exact j_z (own0 := []) (ro0 := [W.seg ((wordsL s 0).map toW), tPow10 9, tDb64 11]) (.inl rfl) rfl (hr3 Tryz.results25 (rvt (v := (.slice _ _ _)) rfl) (rvt (v := (.int _ _)) rfl) (rvt (v := (.int _ _)) rfl)) rfl (.inr ⟨a0, 280, line_unknown (by omega) hw h35 (by omega) (forms_none (by first | assumption | (simpa using (by assumption)) | simp_all)), by decide, by omega, rfl, rfl, rfl⟩)
 ·refine g_on rfl rfl rfl <| mvl rfl <| g_on rfl rfl rfl <| ixs W ((wordsL s 0).map toW) 0 hW rfl rfl rfl uy46 ty49.sz rfl (by rw [ws_len hw]; omega) <| g_on rfl rfl rfl <| fad rfl uy49 rfl ty9.sz <| g_on rfl rfl rfl <| ldvsfG 0 1 (toW (a0, wd)) _ hW rfl rfl rfl (by rw [hw]; rfl) rfl rfl ty9 <| g_on rfl rfl rfl <| scmp (a := wd) (b := ([116, 111, 119, 110] : Str)) _ rfl rfl uy9 rfl <| g_on rfl rfl rfl <| mvi rfl <| g_on rfl rfl rfl <| cmp _ rfl rfl rfl <| g_on rfl rfl rfl <| eqbo _ rfl rfl uy4 rfl <| pkf (.bool _) rfl rfl <| jt <| c_cond rfl (fun h2 => ?_) (fun h2 => ?_)
  ·refine c_seq ?_
   have HFS := form28_some (w := wd) (by first | assumption | (simpa using (by assumption)) | simp_all)
   refine c_dr [_, _, _] [] [(0, 0), (1, 0), (2, 0), (3, 0), (4, 0), (5, 0), (6, 0)] follows (by kernel_rfl) calm_body (keepS [0, 1, 2] rfl) <| mvl rfl <| ixs W ((wordsL s 0).map toW) 0 hW rfl rfl rfl uy46 ty49.sz rfl (by rw [ws_len hw]; omega) <| fad rfl uy49 rfl ty3.sz <| ldvsfG 0 0 (toW (a0, wd)) _ hW rfl rfl rfl (by rw [hw]; rfl) rfl rfl ty3 <| agl rfl <| agi rfl <| agi rfl <| jt <| c_ret ?_
   exact j_z (own0 := []) (ro0 := [W.seg ((wordsL s 0).map toW), tPow10 9, tDb64 11]) (.inl rfl) rfl (hr3 Tryz.results25 (rvt (v := (.slice _ _ _)) rfl) (rvt (v := (.int _ _)) rfl) (rvt (v := (.int _ _)) rfl)) rfl (.inr ⟨a0, 280, line_place (by omega) hw h35 (by omega) HFS.1 (bne_t (by assumption)), by decide, by omega, rfl, rfl, rfl⟩)
  ·refine c_skip <| e_then <| c_seq ?_
   have HFS := form28_some (w := wd) (by first | assumption | (simpa using (by assumption)) | simp_all)
   have HF5 := HFS.2.1
   refine c_reg <| agl rfl <| jt <| c_seq <| csr <| agi rfl <| jt <| c_block <| c_addE <| c_loop (σ := Nat × List Str × Ow) (fun (i, acc, o) => i ≤ ((form28 wd).getD []).length ∧ o.ok acc ∧ acc.length ≤ i ∧ i ≤ r.length ∧ argsR fit28 280 s [] ((form28 wd).getD []) r = argsR fit28 280 s acc (((form28 wd).getD []).drop i) (r.drop i)) (fun (i, acc, o) => ((form28 wd).getD []).length - i) (fun (i, acc, o) => [(11, .int .i64 (i : Int)), (10, .slice o.adr acc.length o.cap)]) (fun (i, acc, o) => [o.seg acc 9]) (fun (i, acc, o) => [W.seg ((wordsL s 0).map toW), tPow10 9, tDb64 11]) [6, 7, 8, 10, 11, 12, 13, 14, 15, 16, 42, 43, 44, 45, 46, 47, 48, 49, 50, 51, 52, 53, 54, 55, 56, 57, 58, 59, 60, 61, 62, 63, 64, 65, 66, 67, 68, 69, 70, 71, 72, 73, 74, 75, 76, 77, 78, 79, 80, 81, 82, 83, 84, 85, 86, 87, 88, 89, 90, 91, 92, 93, 94, 95, 96, 97, 98] (0, [], Ow.nil) (⟨Nat.zero_le _, Ow.nil_ok, Nat.le_refl _, Nat.zero_le _, rfl⟩) ⟨rfl, rfl, trivial⟩ rfl rfl ?_
   rintro ⟨i, acc, o⟩ g1 hI1
   try dsimp only at hI1 ⊢
   have HA1 := hI1.2.2.1
   have HIR := hI1.2.2.2.1
   have HE1 := hI1.2.2.2.2
   refine c_seq <| csr <| mvi rfl <| mvs rfl <| lenT (s := ((form28 wd).getD [])) rfl uy9 <| cmp _ rfl rfl rfl <| jt <| c_cond rfl (fun h3 => ?_) (fun h3 => ?_)
   ·replace h3 := of_decide_eq_true h3
    refine c_skip <| e_then <| c_seq <| c_block <| c_seq <| csr <| mvi rfl <| addi rfl rfl rfl (by omega) <| mvl rfl <| lenS rfl uy46 <| cmp _ rfl rfl rfl <| jt <| c_cond rfl (fun h4 => ?_) (fun h4 => ?_)
    ·replace h4 := of_decide_eq_true h4
     refine csr <| mvs rfl <| lenT (s := s) rfl uy9 <| agl rfl <| agi rfl <| agi rfl <| jt <| c_ret ?_
     exact j_d (own0 := []) (ro0 := [W.seg ((wordsL s 0).map toW), tPow10 9, tDb64 11]) (.inl rfl) rfl (hr3 Tryz.results25 (rvt (v := (.slice _ _ _)) rfl) (rvt (v := (.int _ _)) rfl) (rvt (v := (.int _ _)) rfl)) [0] [_] rfl (by kernel_rfl) rfl (.inr ⟨s.length, 280, line_bad (by omega) hw h35 (by omega) HFS.1 (bne_f (by assumption)) (HE1.trans (by rw [drop_g 0 (by omega), show List.drop i r = [] from List.drop_of_length_le (by omega)]; rfl)), by decide, by omega, rfl, rfl, rfl⟩)
    ·replace h4 := of_decide_eq_false h4
     refine c_skip <| e_then <| c_seq ?_
     have HR := ws_mem hw (i := i) (by omega)
     refine c_reg <| mvl rfl <| mvi rfl <| addi rfl rfl rfl (by omega) <| ixs W ((wordsL s 0).map toW) (i + 1) hW rfl rfl rfl uy46 ty49.sz (by omega) (by omega) <| ldvsG 1 (toW (List.getD r i (0, []))) hW rfl rfl rfl rfl (ws_at hw (by omega)) ty49 <| alo [pt (0 : Int), pt ([] : Str)] _ z49 rfl fun b12 => ⟨trivial, ?_⟩
     refine stw 1 _ [pt ((List.getD r i (0, [])).1 : Int), pt (List.getD r i (0, [])).2] rfl rfl rfl rfl ty49 ⟨trivial, ?_⟩
     refine jt <| c_seq <| csr <| mvs rfl <| mvi rfl <| idxT (s := ((form28 wd).getD [])) i rfl rfl uy9 rfl (by first | omega | (simp; done) | (simp; omega) | (simp at *; omega)) <| equ8 (a := (List.getD ((form28 wd).getD []) i 0)) (b := (99 : UInt8)) _ rfl rfl rfl <| jt <| c_cond rfl (fun h5 => ?_) (fun h5 => ?_)
     ·replace h5 := of_decide_eq_true h5
      refine csr <| mvs rfl <| fad rfl uy49 rfl ty3.sz <| ldp 1 0 _ rfl rfl rfl rfl ty3 <| cutT (s := s) ((List.getD r i (0, [])).1) s.length rfl uy9 ⟨_, rfl⟩ rfl (by first | omega | (simp; done) | (simp; omega)) (by first | omega | (simp; done) | (simp; omega)) (List.drop ((List.getD r i (0, [])).1) s) (cut_hi _ _) <| ags rfl <| jsr <| mvs rfl <| cal (RParse_ct (List.drop ((List.getD r i (0, [])).1) s) (by rw [List.length_drop]; omega)) [] [0, 1] [_, _] rfl rfl rfl (by kernel_rfl) (impl_cons (impl_at 1 rfl) (impl_cons (impl_at 2 rfl) impl_nil)) rfl ?_; rintro _ _ _ (⟨pc1, pm1, po1, pq1, hpA1, hpm1, hpo1, rfl, rfl, rfl⟩ | ⟨pq1, hpB1, rfl, rfl, rfl⟩)
      ·refine ⟨trivial, ?_⟩
       refine mv (.tuple _) rfl <| xtr (.agg _) rfl rfl <| xtr (.int _ _) rfl rfl <| xtr (.int _ _) rfl rfl <| alo [pt (0 : Int), pt ([] : Str), p1 (.slice none 0 0), pt (⟨0⟩ : F64), pt (⟨0⟩ : F64), pt (0 : UInt64), pt (zarr : (Arr UInt8 32))] _ z76 rfl fun b14 => ⟨trivial, ?_⟩
       refine stw 3 _ [pt pc1.kind, pt pc1.text, p1 (.slice po1.adr pm1.length po1.cap), pt pc1.lat, pt pc1.long, pt pc1.number, pt pc1.key] rfl rfl rfl rfl ty76 ⟨trivial, ?_⟩
       refine agi rfl <| agi rfl <| jt <| c_seq <| csr <| mvi rfl <| cmp false rfl rfl rfl <| jt <| c_false rfl <| c_skip <| e_then <| csr <| mvl rfl <| mvs rfl <| bsl (α := Str) ([(List.drop ((List.getD r i (0, [])).1) s)]) uy37 ty9.sz rfl (by decide) z9 rfl fun b83 => ⟨trivial, ?_⟩
       refine app 0 o acc ([(List.drop ((List.getD r i (0, [])).1) s)] : List Str) hI1.2.1 rfl ⟨rfl, rfl, rfl⟩ rfl rfl (gives_own (ys := ([(List.drop ((List.getD r i (0, [])).1) s)] : List Str)) (pre := []) (post := []) 4 rfl (by simp) rfl) uy37 uy37 (.inl ⟨_, rfl⟩) ty9.sz by9 z9 rfl (by simp; omega) rfl fun o84_2 hk84_2 => ⟨trivial, ?_⟩
       refine agl rfl <| agi rfl <| agi rfl <| jt <| c_ret ?_
       exact j_end (own0 := []) (ro0 := [W.seg ((wordsL s 0).map toW), tPow10 9, tDb64 11]) (.inl rfl) rfl (hr3 Tryz.results25 (rvt (v := (.slice _ _ _)) rfl) (rvt (v := (.int _ _)) rfl) (rvt (v := (.int _ _)) rfl)) [0] [1, 2, 3, 4] [_] [_, _, _, _] [] _ rfl rfl (by kernel_rfl) rfl impl_nil (.inl ⟨_, o84_2, line_ok (by omega) hw h35 (by omega) HFS.1 (bne_f (by assumption)) (HE1.trans (by rw [drop_g 0 (by omega), drop_g (0, []) (by omega)]; exact argl_cok (by assumption) hpA1)), hk84_2, by simp; omega, rfl, rfl, rfl⟩)
      ·have hpC1 := parseR_le hpB1; rw [List.length_drop] at hpC1; refine ⟨trivial, ?_⟩
       refine mv (.tuple _) rfl <| xtr (.agg _) rfl rfl <| xtr (.int _ _) rfl rfl <| xtr (.int _ _) rfl rfl <| alo [pt (0 : Int), pt ([] : Str), p1 (.slice none 0 0), pt (⟨0⟩ : F64), pt (⟨0⟩ : F64), pt (0 : UInt64), pt (zarr : (Arr UInt8 32))] _ z76 rfl fun b14 => ⟨trivial, ?_⟩
       refine stw 2 _ [pt (0 : Int), pt ([] : Str), p1 (.slice none 0 0), pt (⟨0⟩ : F64), pt (⟨0⟩ : F64), pt (0 : UInt64), pt (zarr : (Arr UInt8 32))] rfl rfl rfl rfl ty76 ⟨trivial, ?_⟩
       refine agi rfl <| agi rfl <| jt <| c_seq <| csr <| mvi rfl <| cmp true rfl rfl rfl <| jt <| c_true rfl <| c_seq <| c_dr [_, _, _, _, _, _] [] [(0, 0), (1, 0), (2, 0), (3, 0), (4, 0), (5, 0), (6, 0), (7, 0)] follows (by kernel_rfl) calm_body (keepS [0, 1, 2, 3, 4, 5] rfl) <| fad rfl uy49 rfl ty3.sz <| ldp 1 0 _ rfl rfl rfl rfl ty3 <| mvi rfl <| addi rfl rfl rfl (by omega) <| mvi rfl <| agl rfl <| agi rfl <| agi rfl <| jt <| c_ret ?_
       exact j_d (own0 := []) (ro0 := [W.seg ((wordsL s 0).map toW), tPow10 9, tDb64 11]) (.inl rfl) rfl (hr3 Tryz.results25 (rvt (v := (.slice _ _ _)) rfl) (rvt (v := (.int _ _)) rfl) (rvt (v := (.int _ _)) rfl)) [0, 1, 2] [_, _, _] rfl (by kernel_rfl) rfl (.inr ⟨_, 90, line_bad (by omega) hw h35 (by omega) HFS.1 (bne_f (by assumption)) (HE1.trans (by rw [drop_g 0 (by omega), drop_g (0, []) (by omega)]; exact argl_cbad (by assumption) hpB1)), by decide, by omega, rfl, rfl, rfl⟩)
     ·replace h5 := of_decide_eq_false h5
      refine c_skip <| e_then <| c_seq <| c_seq <| c_dr [_, _, _, _, _] [] [(0, 0), (1, 0), (2, 0), (3, 0), (4, 0), (5, 1), (6, 0)] follows (by kernel_rfl) calm_body (keepS [0, 1, 2, 3, 4] rfl) <| fad rfl uy49 rfl ty9.sz <| ldp 1 1 _ rfl rfl rfl rfl ty9 <| mvs rfl <| mvi rfl <| idxT (s := ((form28 wd).getD [])) i rfl rfl uy9 rfl (by first | omega | (simp; done) | (simp; omega) | (simp at *; omega)) <| cal (r28fits_ct ((List.getD r i (0, [])).2) (List.getD ((form28 wd).getD []) i 0) (HFS.2.2 _ (getD_memK (by omega))) (by assumption) (by omega) (by omega)) [] [0, 1] [_, _] rfl rfl rfl (by kernel_rfl) impl_nil rfl ?_; rintro _ _ _ ⟨rfl, rfl, rfl⟩; refine ⟨keepI [0, 1, 2, 3, 4] rfl, ?_⟩
      refine not_ rfl <| jt <| c_cond rfl (fun h6 => ?_) (fun h6 => ?_)
      ·refine c_seq <| c_dr [_, _, _, _, _] [] [(0, 0), (1, 0), (2, 0), (3, 0), (4, 0)] follows (by kernel_rfl) calm_body (keepS [0, 1, 2, 3, 4] rfl) <| fad rfl uy49 rfl ty3.sz <| ldp 1 0 _ rfl rfl rfl rfl ty3 <| agl rfl <| agi rfl <| agi rfl <| jt <| c_ret ?_
       exact j_d (own0 := []) (ro0 := [W.seg ((wordsL s 0).map toW), tPow10 9, tDb64 11]) (.inl rfl) rfl (hr3 Tryz.results25 (rvt (v := (.slice _ _ _)) rfl) (rvt (v := (.int _ _)) rfl) (rvt (v := (.int _ _)) rfl)) [0, 1] [_, _] rfl (by kernel_rfl) rfl (.inr ⟨_, 280, line_bad (by omega) hw h35 (by omega) HFS.1 (bne_f (by assumption)) (HE1.trans (by rw [drop_g 0 (by omega), drop_g (0, []) (by omega)]; exact argl_no (by assumption) (notT (by assumption)))), by decide, by omega, rfl, rfl, rfl⟩)
      ·refine c_skip <| e_then <| c_reg <| mvl rfl <| fad rfl uy49 rfl ty9.sz <| ldp 1 1 _ rfl rfl rfl rfl ty9 <| bsl (α := Str) ([(List.getD r i (0, [])).2]) uy37 ty9.sz rfl (by decide) z9 rfl fun b97 => ⟨trivial, ?_⟩
       refine app 0 o acc ([(List.getD r i (0, [])).2] : List Str) hI1.2.1 rfl ⟨rfl, rfl, rfl⟩ rfl rfl (gives_own (ys := ([(List.getD r i (0, [])).2] : List Str)) (pre := []) (post := []) 2 rfl (by simp) rfl) uy37 uy37 (.inl ⟨_, rfl⟩) ty9.sz by9 z9 rfl (by simp; omega) rfl fun o98_3 hk98_3 => ⟨trivial, ?_⟩
       refine agl rfl <| jn <| e_in <| e_then <| c_reg <| mvi rfl <| addi rfl rfl rfl (by omega) <| agi rfl <| jn <| e_keep [0] [1, 2] [_] rfl (by kernel_rfl) ?_
       exact e_loop (i + 1, (acc ++ ([(List.getD r i (0, [])).2] : List Str)), o98_3) (by dsimp only; exact ⟨by omega, hk98_3, by (try simp); omega, by omega, HE1.trans (by rw [drop_g 0 (by omega), drop_g (0, []) (by omega)]; exact argl_yes (by assumption) (notF (by assumption)))⟩) (by show ((form28 wd).getD []).length - (i + 1) < ((form28 wd).getD []).length - i; omega) (⟨rfl, rfl, trivial⟩) rfl rfl rfl
   ·replace h3 := of_decide_eq_false h3
    refine c_exit rfl <| e_then <| c_seq <| csr <| mvl rfl <| lenS rfl uy46 <| mvs rfl <| lenT (s := ((form28 wd).getD [])) rfl uy9 <| addi rfl rfl rfl (by omega) <| cmp _ rfl rfl rfl <| jt <| c_cond rfl (fun h7 => ?_) (fun h7 => ?_)
    ·replace h7 := of_decide_eq_true h7
     refine c_seq ?_
     have HR := ws_mem hw (i := ((form28 wd).getD []).length) (by omega)
     refine c_dr [_, _, _, _] [] [(0, 0), (1, 0), (2, 0), (3, 0), (4, 0), (5, 0), (6, 0), (7, 0), (8, 0), (9, 0)] follows (by kernel_rfl) calm_body (keepS [0, 1, 2, 3] rfl) <| mvl rfl <| mvs rfl <| lenT (s := ((form28 wd).getD [])) rfl uy9 <| addi rfl rfl rfl (by omega) <| ixs W ((wordsL s 0).map toW) (((form28 wd).getD []).length + 1) hW rfl rfl rfl uy46 ty49.sz (by omega) (by omega) <| fad rfl uy49 rfl ty3.sz <| ldvsfG 1 0 (toW (List.getD r ((form28 wd).getD []).length (0, []))) _ hW rfl rfl rfl (ws_at hw (by omega)) rfl rfl ty3 <| agl rfl <| agi rfl <| agi rfl <| jt <| c_ret ?_
     exact j_d (own0 := []) (ro0 := [W.seg ((wordsL s 0).map toW), tPow10 9, tDb64 11]) (.inl rfl) rfl (hr3 Tryz.results25 (rvt (v := (.slice _ _ _)) rfl) (rvt (v := (.int _ _)) rfl) (rvt (v := (.int _ _)) rfl)) [0] [_] rfl (by kernel_rfl) rfl (.inr ⟨_, 280, line_more (by omega) hw h35 (by omega) HFS.1 (bne_f (by assumption)) (HE1.trans (by rw [show List.drop i ((form28 wd).getD []) = [] from List.drop_of_length_le (by omega), show i = ((form28 wd).getD []).length by omega, drop_g (0, []) (by omega)]; rfl)), by decide, by omega, rfl, rfl, rfl⟩)
    ·replace h7 := of_decide_eq_false h7
     refine c_skip <| e_then <| csr <| mvl rfl <| agl rfl <| agi rfl <| agi rfl <| jt <| c_ret ?_
     exact j_end (own0 := []) (ro0 := [W.seg ((wordsL s 0).map toW), tPow10 9, tDb64 11]) (.inl rfl) rfl (hr3 Tryz.results25 (rvt (v := (.slice _ _ _)) rfl) (rvt (v := (.int _ _)) rfl) (rvt (v := (.int _ _)) rfl)) [0] [] [_] [] [] _ rfl rfl (by kernel_rfl) rfl impl_nil (.inl ⟨acc, o, line_ok (by omega) hw h35 (by omega) HFS.1 (bne_f (by assumption)) (HE1.trans (by rw [show List.drop i ((form28 wd).getD []) = [] from List.drop_of_length_le (by omega), show List.drop i r = [] from List.drop_of_length_le (by omega)]; rfl)), hI1.2.1, by omega, rfl, rfl, rfl⟩)
end Go.Proofs.YtakbbpahfclgnaaGreatDoor
