/- Contracts of the program's functions, walked. No condition. -/
import Derived.Test.YtacfjmjcgolhfaaA21
namespace Go.Proofs.Ytacfjmjcgolhfaa
open Go Go.Proofs Go.PW
open Go.PW.Enc (enc val)

/-- A list that was handed out, the law's own copy of it, what they hold. -/
structure Hd (α : Type) where
  a : Ow
  b : Ow
  xs : List α
def Hd.ok {α : Type} [Enc α] (p : Hd α) : Prop := p.a.ok p.xs ∧ p.b.ok p.xs ∧ p.xs.length ≤ 2000
def hdA {α : Type} (p : Hd α) : SlH := ⟨p.a.adr, p.xs.length, p.a.cap⟩
def hdB {α : Type} (p : Hd α) : SlH := ⟨p.b.adr, p.xs.length, p.b.cap⟩
def segA {α : Type} [Enc α] (E : Nat) (H : List (Hd α)) : Seg := H.flatMap fun p => p.a.seg p.xs E
def segB {α : Type} [Enc α] (E : Nat) (H : List (Hd α)) : Seg := H.flatMap fun p => p.b.seg p.xs E
theorem segA_at {α : Type} [Enc α] {E i : Nat} {H : List (Hd α)} {p : Hd α} (h : H[i]? = some p) : segA E (H.drop i) = p.a.seg p.xs E ++ segA E (H.drop (i + 1)) := by
  obtain ⟨hi, rfl⟩ := List.getElem?_eq_some_iff.1 h
  rw [List.drop_eq_getElem_cons hi]; rfl
theorem impl_part {src : List Seg} {s t : Seg} (j : Nat) (hs : src[j]? = some s) (h : ∀ p ∈ t, p ∈ s) : Impl src [t] := fun x hx p hp => by
  rw [List.mem_singleton] at hx; subst hx
  exact ⟨s, List.mem_of_getElem? hs, p, h p hp, rfl, fun _ h => h⟩
theorem implA {α : Type} [Enc α] {E : Nat} {H : List (Hd α)} {p : Hd α} {src : List Seg} (j : Nat) (hs : src[j]? = some (segA E H)) (hp : p ∈ H) : Impl src [p.a.vs.seg p.xs] :=
  impl_trans (impl_part j hs fun _ hq => List.mem_flatMap.2 ⟨p, hp, hq⟩) (ow_impl (E := E) 0 rfl)
theorem implB {α : Type} [Enc α] {E : Nat} {H : List (Hd α)} {p : Hd α} {src : List Seg} (j : Nat) (hs : src[j]? = some (segB E H)) (hp : p ∈ H) : Impl src [p.b.vs.seg p.xs] :=
  impl_trans (impl_part j hs fun _ hq => List.mem_flatMap.2 ⟨p, hp, hq⟩) (ow_impl (E := E) 0 rfl)
theorem implBd {α : Type} [Enc α] {E : Nat} {H : List (Hd α)} {src : List Seg} (j f : Nat) (hs : src[j]? = some (segB E H)) : Impl src [segB E (H.drop f)] :=
  impl_part j hs fun _ hq => by
    obtain ⟨p, hp, hq⟩ := List.mem_flatMap.1 hq
    exact List.mem_flatMap.2 ⟨p, List.mem_of_mem_drop hp, hq⟩
theorem implA0 {α : Type} [Enc α] {E : Nat} {H : List (Hd α)} {src : List Seg} {f : Nat} (h : H.length ≤ f) : Impl src [segA E (H.drop f)] := by
  rw [List.drop_eq_nil_of_le h]
  intro s hs p hp
  rw [List.mem_singleton] at hs; subst hs; cases hp
theorem hd_in {α : Type} {H : List (Hd α)} {i f : Nat} {p : Hd α} (h : H[i]? = some p) (hf : f ≤ i) : p ∈ H.drop f := by
  refine List.mem_of_getElem? (i := i - f) ?_
  rw [List.getElem?_drop, ← h]; congr 1; omega

set_option maxRecDepth 20000 in
set_option maxHeartbeats 4000000 in
theorem kept_ct (bsh : Nat) (oL oW oK oY : Ow) (HL : List (Hd Spare)) (HK : List (Hd Key)) (hoL : oL.ok (HL.map hdA)) (hoW : oW.ok (HL.map hdB)) (hoK : oK.ok (HK.map hdA)) (hoY : oY.ok (HK.map hdB)) (hHL : ∀ p ∈ HL, p.ok) (hHK : ∀ p ∈ HK, p.ok) (f g : Nat) (hL : HL.length ≤ 9223372036854775806) (hK : HK.length ≤ 9223372036854775806) (hf : f ≤ 9223372036854775806) (hg : g ≤ 9223372036854775806) : Ct Try.prog 27 [.pointer (some ⟨bsh, 0, none⟩), .int .i64 (f : Int), .int .i64 (g : Int)] [] [[(bsh, .cells (cat [p1 (.slice oL.adr (HL.map hdA).length oL.cap), p1 (.slice oW.adr (HL.map hdB).length oW.cap), p1 (.slice oK.adr (HK.map hdA).length oK.cap), p1 (.slice oY.adr (HK.map hdB).length oY.cap)]) 48)], oL.seg (HL.map hdA) 22, oW.seg (HL.map hdB) 22, oK.seg (HK.map hdA) 77, oY.seg (HK.map hdB) 77, segA 33 (HL.drop f), segB 33 (HL.drop f), segA 30 (HK.drop g), segB 30 (HK.drop g)] (fun v o r => v = .bool true ∧ o = [] ∧ r = []) := by
  have hmL : (List.map hdA HL).length = HL.length := by simp
  have hmW : (List.map hdB HL).length = HL.length := by simp
  have hmK : (List.map hdA HK).length = HK.length := by simp
  have hmY : (List.map hdB HK).length = HK.length := by simp
  refine ct_enter Try.func27 rfl Try.ntmps27 (by kernel_rfl) rfl fun w0 => ?_
  refine c_seq ?_
  refine c_reg ?_
  refine asg (.bool _) rfl ?_
  refine jt ?_
  refine c_seq ?_
  refine c_seq ?_
  refine c_reg ?_
  refine mv (.int _ _) rfl ?_
  refine asg (.int _ _) rfl ?_
  refine jt ?_
  refine c_block ?_
  refine c_loop (σ := Nat) (fun k => f ≤ k) (fun k => HL.length - k) (fun k => [(7, .int .i64 (k : Int))]) (fun k => []) (fun k => [[(bsh, .cells (cat [p1 (.slice oL.adr (HL.map hdA).length oL.cap), p1 (.slice oW.adr (HL.map hdB).length oW.cap), p1 (.slice oK.adr (HK.map hdA).length oK.cap), p1 (.slice oY.adr (HK.map hdB).length oY.cap)]) 48)], oL.seg (HL.map hdA) 22, oW.seg (HL.map hdB) 22, oK.seg (HK.map hdA) 77, oY.seg (HK.map hdB) 77, segA 33 (HL.drop f), segB 33 (HL.drop f), segA 30 (HK.drop g), segB 30 (HK.drop g)]) [6, 7, 10, 11, 12, 13, 14, 15, 16, 17, 18, 19, 20, 21, 22, 23, 24, 25, 26, 27, 28, 29, 30, 31, 32, 33, 34] f (by omega) ⟨rfl, trivial⟩ rfl rfl ?_
  rintro k g1 hI1
  try dsimp only at hI1 ⊢
  refine c_seq ?_
  refine c_seq ?_
  refine c_reg ?_
  refine mv (.int _ _) rfl ?_
  refine mv (.pointer _) rfl ?_
  refine nlc rfl ?_
  refine fad rfl Try.underlying48 rfl ty45.sz ?_
  refine ldp 0 0 _ rfl rfl rfl rfl ty45 ?_
  refine lenS rfl Try.underlying45 ?_
  refine cmp _ rfl rfl rfl ?_
  refine jt ?_
  refine c_cond rfl (fun h1 => ?_) (fun h1 => ?_)
  · replace h1 := of_decide_eq_true h1
    refine c_skip ?_
    refine e_then ?_
    refine c_seq ?_
    refine c_block ?_
    refine c_seq ?_
    obtain ⟨p, hp⟩ : ∃ p, HL[k]? = some p := ⟨HL[k]'(by simp at *; omega), List.getElem?_eq_getElem _⟩
    have hpok := hHL p (List.mem_of_getElem? hp)
    have hpl := hpok.2.2
    refine c_dr [_, _, _, _, _, _, _, _, _] [] [(0, 0), (1, 0), (2, 0), (3, 0), (4, 0), (5, 0), (6, 0), (7, 0), (8, 0), (9, 0), (10, 0), (11, 0), (12, 0), (13, 0), (14, 1), (15, 0)] follows (by kernel_rfl) calm_body (keepS [0, 1, 2, 3, 4, 5, 6, 7, 8] rfl) ?_
    refine mv (.pointer _) rfl ?_
    refine nlc rfl ?_
    refine fad rfl Try.underlying48 rfl ty45.sz ?_
    refine ldp 0 0 _ rfl rfl rfl rfl ty45 ?_
    refine mv (.int _ _) rfl ?_
    refine ixs ((oL).vs) (HL.map hdA) k (Ow.vs_ok hoL) rfl rfl rfl Try.underlying45 ty22.sz rfl (by simp at *; omega) ?_
    refine ldsoG 1 (hdA p) hoL rfl rfl rfl rfl (by simp [hp]) ty22 ?_
    refine mv (.pointer _) rfl ?_
    refine nlc rfl ?_
    refine fad rfl Try.underlying48 rfl ty45.sz ?_
    refine ldp 0 1 _ rfl rfl rfl rfl ty45 ?_
    refine mv (.int _ _) rfl ?_
    refine ixs ((oW).vs) (HL.map hdB) k (Ow.vs_ok hoW) rfl rfl rfl Try.underlying45 ty22.sz rfl (by simp at *; omega) ?_
    refine ldsoG 2 (hdB p) hoW rfl rfl rfl rfl (by simp [hp]) ty22 ?_
    refine cal (sameSpares_self p.a.vs p.b.vs p.xs (Ow.vs_ok hpok.1) (Ow.vs_ok hpok.2.1) (by omega)) [] [] [] rfl rfl rfl (by kernel_rfl) (impl_cons (implA 5 rfl (hd_in hp (by omega))) (impl_cons (implB 6 rfl (hd_in hp (by omega))) impl_nil)) rfl ?_; rintro _ _ _ ⟨rfl, rfl, rfl⟩; refine ⟨keepI [0, 1, 2, 3, 4, 5, 6, 7, 8] rfl, ?_⟩
    refine not_ rfl ?_
    refine jt ?_
    refine c_false rfl ?_
    refine c_skip ?_
    refine e_in ?_
    refine e_then ?_
    refine c_reg ?_
    refine mv (.int _ _) rfl ?_
    refine addi rfl rfl rfl (by omega) ?_
    refine asg (.int _ _) rfl ?_
    refine jn ?_
    exact e_loop (k + 1) (by omega) (by simp at *; omega) (⟨rfl, trivial⟩) rfl rfl rfl
  · replace h1 := of_decide_eq_false h1
    refine c_exit rfl ?_
    refine e_then ?_
    refine c_seq ?_
    refine c_seq ?_
    refine c_reg ?_
    refine mv (.int _ _) rfl ?_
    refine asg (.int _ _) rfl ?_
    refine jt ?_
    refine c_block ?_
    refine c_loop (σ := Nat) (fun k => g ≤ k) (fun k => HK.length - k) (fun k => [(8, .int .i64 (k : Int))]) (fun k => []) (fun k => [[(bsh, .cells (cat [p1 (.slice oL.adr (HL.map hdA).length oL.cap), p1 (.slice oW.adr (HL.map hdB).length oW.cap), p1 (.slice oK.adr (HK.map hdA).length oK.cap), p1 (.slice oY.adr (HK.map hdB).length oY.cap)]) 48)], oL.seg (HL.map hdA) 22, oW.seg (HL.map hdB) 22, oK.seg (HK.map hdA) 77, oY.seg (HK.map hdB) 77, segA 33 (HL.drop f), segB 33 (HL.drop f), segA 30 (HK.drop g), segB 30 (HK.drop g)]) [6, 8, 36, 37, 38, 39, 40, 41, 42, 43, 44, 45, 46, 47, 48, 49, 50, 51, 52, 53, 54, 55, 56, 57, 58, 59, 60] g (by omega) ⟨rfl, trivial⟩ rfl rfl ?_
    rintro k g2 hI2
    try dsimp only at hI2 ⊢
    refine c_seq ?_
    refine c_seq ?_
    refine c_reg ?_
    refine mv (.int _ _) rfl ?_
    refine mv (.pointer _) rfl ?_
    refine nlc rfl ?_
    refine fad rfl Try.underlying48 rfl ty46.sz ?_
    refine ldp 0 2 _ rfl rfl rfl rfl ty46 ?_
    refine lenS rfl Try.underlying46 ?_
    refine cmp _ rfl rfl rfl ?_
    refine jt ?_
    refine c_cond rfl (fun h2 => ?_) (fun h2 => ?_)
    · replace h2 := of_decide_eq_true h2
      refine c_skip ?_
      refine e_then ?_
      refine c_seq ?_
      refine c_block ?_
      refine c_seq ?_
      obtain ⟨p, hp⟩ : ∃ p, HK[k]? = some p := ⟨HK[k]'(by simp at *; omega), List.getElem?_eq_getElem _⟩
      have hpok := hHK p (List.mem_of_getElem? hp)
      have hpl := hpok.2.2
      refine c_dr [_, _, _, _, _, _, _, _, _] [] [(0, 0), (1, 0), (2, 0), (3, 0), (4, 0), (5, 0), (6, 0), (7, 0), (8, 0), (9, 0), (10, 0), (11, 0), (12, 0), (13, 0), (14, 1), (15, 0)] follows (by kernel_rfl) calm_body (keepS [0, 1, 2, 3, 4, 5, 6, 7, 8] rfl) ?_
      refine mv (.pointer _) rfl ?_
      refine nlc rfl ?_
      refine fad rfl Try.underlying48 rfl ty46.sz ?_
      refine ldp 0 2 _ rfl rfl rfl rfl ty46 ?_
      refine mv (.int _ _) rfl ?_
      refine ixs ((oK).vs) (HK.map hdA) k (Ow.vs_ok hoK) rfl rfl rfl Try.underlying46 ty77.sz rfl (by simp at *; omega) ?_
      refine ldsoG 3 (hdA p) hoK rfl rfl rfl rfl (by simp [hp]) ty77 ?_
      refine mv (.pointer _) rfl ?_
      refine nlc rfl ?_
      refine fad rfl Try.underlying48 rfl ty46.sz ?_
      refine ldp 0 3 _ rfl rfl rfl rfl ty46 ?_
      refine mv (.int _ _) rfl ?_
      refine ixs ((oY).vs) (HK.map hdB) k (Ow.vs_ok hoY) rfl rfl rfl Try.underlying46 ty77.sz rfl (by simp at *; omega) ?_
      refine ldsoG 4 (hdB p) hoY rfl rfl rfl rfl (by simp [hp]) ty77 ?_
      refine cal (sameKeys_self p.a.vs p.b.vs p.xs (Ow.vs_ok hpok.1) (Ow.vs_ok hpok.2.1) (by omega)) [] [] [] rfl rfl rfl (by kernel_rfl) (impl_cons (implA 7 rfl (hd_in hp (by omega))) (impl_cons (implB 8 rfl (hd_in hp (by omega))) impl_nil)) rfl ?_; rintro _ _ _ ⟨rfl, rfl, rfl⟩; refine ⟨keepI [0, 1, 2, 3, 4, 5, 6, 7, 8] rfl, ?_⟩
      refine not_ rfl ?_
      refine jt ?_
      refine c_false rfl ?_
      refine c_skip ?_
      refine e_in ?_
      refine e_then ?_
      refine c_reg ?_
      refine mv (.int _ _) rfl ?_
      refine addi rfl rfl rfl (by omega) ?_
      refine asg (.int _ _) rfl ?_
      refine jn ?_
      exact e_loop (k + 1) (by omega) (by simp at *; omega) (⟨rfl, trivial⟩) rfl rfl rfl
    · replace h2 := of_decide_eq_false h2
      refine c_exit rfl ?_
      refine e_then ?_
      refine c_seq ?_
      refine c_reg ?_
      refine asg (.bool _) rfl ?_
      refine jt ?_
      refine c_ret ?_
      exact j_end (own0 := []) (ro0 := [[(bsh, .cells (cat [p1 (.slice oL.adr (HL.map hdA).length oL.cap), p1 (.slice oW.adr (HL.map hdB).length oW.cap), p1 (.slice oK.adr (HK.map hdA).length oK.cap), p1 (.slice oY.adr (HK.map hdB).length oY.cap)]) 48)], oL.seg (HL.map hdA) 22, oW.seg (HL.map hdB) 22, oK.seg (HK.map hdA) 77, oY.seg (HK.map hdB) 77, segA 33 (HL.drop f), segB 33 (HL.drop f), segA 30 (HK.drop g), segB 30 (HK.drop g)]) (.inl rfl) rfl (hr1 Try.results27 (rvt (v := (.bool _)) rfl)) [] [] [] [] [] _ rfl rfl (by kernel_rfl) rfl impl_nil (⟨rfl, rfl, rfl⟩)
end Go.Proofs.Ytacfjmjcgolhfaa
