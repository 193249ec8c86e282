/- Contracts of the program's functions, walked. No condition. -/
import Derived.Test.YtacfjmjcgolhfaaA4
namespace Go.Proofs.Ytacfjmjcgolhfaa
open Go Go.Proofs Go.PW
open Go.PW.Enc (enc val)

theorem hx_cons {x a : Value} {xs l r : List Value} (hl : l = x :: xs) (h : x = a) (h2 : xs = r) : l = a :: r := by rw [hl, h, h2]
theorem hx_len {a : Option Addr} {c n m : Nat} (h : n = m) : Value.slice a n c = Value.slice a m c := by rw [h]
theorem nilrow_ok {α : Type} : (⟨true, 0, 0, 0, none⟩ : Vs).ok ([] : List α) := ⟨fun _ => rfl, Nat.le_refl _⟩
theorem impl_nilrow {α : Type} [Enc α] {src : List Seg} : Impl src [(⟨true, 0, 0, 0, none⟩ : Vs).seg ([] : List α)] := fun s hs p hp => by
  rw [List.mem_singleton] at hs; subst hs; cases hp
theorem freshrow_ok {α : Type} (b : Nat) (xs : List α) : (⟨false, b, 0, xs.length, none⟩ : Vs).ok xs := ⟨fun h => by simp at h, Nat.le_refl _⟩
theorem impl_fresh {α : Type} [Enc α] {src : List Seg} {b n E : Nat} {xs : List α} (j : Nat) (h : src[j]? = some [(b, .cells (encs xs) E)]) : Impl src [(⟨false, b, 0, n, none⟩ : Vs).seg xs] :=
  impl_view (l := encs xs) (off := 0) j h ⟨[], [], by simp, rfl⟩
theorem New_ok (most : Int) (h : 0 ≤ most ∧ most ≤ 2000) : Ct Try.prog 18 [.int .i64 most] [] [] (fun v w r => ∃ (bs m : Nat), v = .tuple #[.pointer (some ⟨bs, 0, none⟩), .int .i64 0] ∧ w = [[(bs, .cells (cat [p1 (.int .i64 most), p1 (.map (some m)), p1 (.slice Ow.nil.adr (List.map plc ([] : List Spare)).length Ow.nil.cap)]) 76)], [(m, .pred (isMap (List.map skv ([] : List Spare))))], Ow.nil.seg (List.map plc ([] : List Spare)) 72] ∧ r = []) := by
  have h1 := New_ct most
  exact h1.mono fun v w r h2 => h2.elim (fun h3 => h3.2) (fun h3 => absurd h h3.1)
theorem Put_is (bs m : Nat) (o : Ow) (most : Int) (l : List Spare) (ho : o.ok (List.map plc l)) (hm : 0 ≤ most ∧ most ≤ 2000) (hl : l.length ≤ 2000) (hnd : (l.map plc).Nodup) (s : Vs) (xs : List Spare) (hs : s.ok xs) (hx : xs.length ≤ 9223372036854775806) {z : Int} {l2 : List Spare} (hz : putE most l xs = z) (hl2 : putL most l xs = l2) : Ct Try.prog 12 [.pointer (some ⟨bs, 0, none⟩), s.v xs.length] [[(bs, .cells (cat [p1 (.int .i64 most), p1 (.map (some m)), p1 (.slice o.adr (List.map plc l).length o.cap)]) 76)], [(m, .pred (isMap (List.map skv l)))], o.seg (List.map plc l) 72] [s.seg xs] (fun v w r => ∃ o' : Ow, o'.ok (List.map plc l2) ∧ v = .int .i64 z ∧ w = [[(bs, .cells (cat [p1 (.int .i64 most), p1 (.map (some m)), p1 (.slice o'.adr (List.map plc l2).length o'.cap)]) 76)], [(m, .pred (isMap (List.map skv l2)))], o'.seg (List.map plc l2) 72] ∧ r = []) := by
  subst hz; subst hl2; exact Put_ct bs m o most l ho hm hl hnd s xs hs hx
theorem Find_is (bs m : Nat) (o : Ow) (most : Int) (l : List Spare) (ho : o.ok (List.map plc l)) (h : Key) (n : UInt32) {z : Option Key} {k : Key} {f : Bool} (hz : mget (⟨h, n⟩ : SpP) (List.map skv l) = z) (hk : z.getD zarr = k) (hf : z.isSome = f) : Ct Try.prog 20 [.pointer (some ⟨bs, 0, none⟩), val h, .int .u32 n.toNat] [] [[(bs, .cells (cat [p1 (.int .i64 most), p1 (.map (some m)), p1 (.slice o.adr (List.map plc l).length o.cap)]) 76)], [(m, .pred (isMap (List.map skv l)))], o.seg (List.map plc l) 72] (fun v o r => v = .tuple #[val k, .bool f] ∧ o = [] ∧ r = []) := by
  subst hz; subst hk; subst hf; exact Find_ct bs m o most l ho h n
def fromE (most : Int) (xs : List Spare) : Int := if 0 ≤ most ∧ most ≤ 2000 then putE most [] xs else 1
theorem from_in {most : Int} {xs : List Spare} (h : 0 ≤ most ∧ most ≤ 2000) : fromE most xs = putE most [] xs := if_pos h
theorem from_out {most : Int} {xs : List Spare} (h : ¬ (0 ≤ most ∧ most ≤ 2000)) : fromE most xs = 1 := if_neg h
theorem from_ok {most : Int} {xs : List Spare} (h : 0 ≤ most ∧ most ≤ 2000) (h2 : putE most [] xs = 0) : fromE most xs = 0 ∧ putL most [] xs = xs := ⟨by rw [from_in h, h2], by unfold putL; rw [if_pos h2]; rfl⟩
theorem from_facts {most : Int} {xs : List Spare} (h : fromE most xs = 0) : (0 ≤ most ∧ most ≤ 2000) ∧ (xs.map plc).Nodup ∧ xs.length ≤ most := by
  unfold fromE at h
  split at h
  · next hm =>
    unfold putE at h
    split at h
    · cases h
    · next h1 =>
      split at h
      · cases h
      · next h2 => exact ⟨hm, by simpa using h1, by simp at h2; omega⟩
  · cases h

theorem From_ct (most : Int) (s : Vs) (xs : List Spare) (hs : s.ok xs) (hx : xs.length ≤ 9223372036854775806) : Ct Try.prog 10 [.int .i64 most, s.v xs.length] [] [s.seg xs] (fun v w r => (fromE most xs = 0 ∧ ∃ (bs m : Nat) (o' : Ow), o'.ok (List.map plc xs) ∧ v = .tuple #[.pointer (some ⟨bs, 0, none⟩), .int .i64 0] ∧ w = [[(bs, .cells (cat [p1 (.int .i64 most), p1 (.map (some m)), p1 (.slice o'.adr (List.map plc xs).length o'.cap)]) 76)], [(m, .pred (isMap (List.map skv xs)))], o'.seg (List.map plc xs) 72] ∧ r = []) ∨ (fromE most xs ≠ 0 ∧ v = .tuple #[.pointer none, .int .i64 (fromE most xs)] ∧ w = [] ∧ r = [])) := by
  refine ct_enter Try.func10 rfl Try.ntmps10 (by kernel_rfl) rfl fun w0 => ?_
  refine c_seq ?_
  refine c_reg ?_
  refine asg (.pointer _) rfl ?_
  refine asg (.int _ _) rfl ?_
  refine jt ?_
  refine c_seq ?_
  refine c_reg ?_
  refine mv (.int _ _) rfl ?_
  refine cal (New_ct most) [] [] [] rfl rfl rfl (by kernel_rfl) impl_nil rfl ?_; rintro _ _ _ (⟨hN10, bs10, m10, rfl, rfl, rfl⟩ | ⟨hN10, rfl, rfl, rfl⟩)
  · refine ⟨trivial, ?_⟩
    refine mv (.tuple _) rfl ?_
    refine xtr (.pointer _) rfl rfl ?_
    refine xtr (.int _ _) rfl rfl ?_
    refine asg (.pointer _) rfl ?_
    refine asg (.int _ _) rfl ?_
    refine jt ?_
    refine c_seq ?_
    refine c_seq ?_
    refine c_reg ?_
    refine mv (.int _ _) rfl ?_
    refine cmp true rfl rfl rfl ?_
    refine jt ?_
    refine c_true rfl ?_
    refine c_reg ?_
    refine mv (.pointer _) rfl ?_
    refine mv (.slice _ _ _) rfl ?_
    refine cal (Put_is bs10 m10 Ow.nil most ([] : List Spare) Ow.nil_ok hN10 (by simp) (by simp) s xs hs (by omega) (z := putE most ([] : List Spare) xs) (l2 := (putL most ([] : List Spare) xs)) rfl rfl) [0, 1, 2] [] [] rfl rfl rfl (by kernel_rfl) (impl_cons (impl_at 0 rfl) impl_nil) rfl ?_; rintro _ _ _ ⟨o17, ho17, rfl, rfl, rfl⟩; refine ⟨trivial, ?_⟩
    refine asg (.int _ _) rfl ?_
    refine jt ?_
    refine c_seq ?_
    refine c_seq ?_
    refine c_reg ?_
    refine mv (.int _ _) rfl ?_
    refine cmp _ rfl rfl rfl ?_
    refine jt ?_
    refine c_cond rfl (fun h1 => ?_) (fun h1 => ?_)
    · replace h1 := ndt h1
      refine c_seq ?_
      refine c_reg ?_
      refine mv (.int _ _) rfl ?_
      refine asg (.pointer _) rfl ?_
      refine asg (.int _ _) rfl ?_
      refine jt ?_
      refine c_ret ?_
      exact j_end (own0 := []) (ro0 := [s.seg xs]) (.inl rfl) rfl (hr2 Try.results10 (rvt (v := (.pointer _)) rfl) (rvt (v := (.int _ _)) rfl)) [] [0, 1, 2] [] [_, _, _] [] _ rfl rfl (by kernel_rfl) rfl impl_nil (.inr ⟨by rw [from_in hN10]; exact h1, by rw [from_in hN10], rfl, rfl⟩)
    · replace h1 := ndf h1
      refine c_skip ?_
      refine e_then ?_
      refine c_seq ?_
      refine c_reg ?_
      refine mv (.pointer _) rfl ?_
      refine asg (.pointer _) rfl ?_
      refine asg (.int _ _) rfl ?_
      refine jt ?_
      refine c_ret ?_
      exact j_end (own0 := []) (ro0 := [s.seg xs]) (.inl rfl) rfl (hr2 Try.results10 (rvt (v := (.pointer _)) rfl) (rvt (v := (.int _ _)) rfl)) [0, 1, 2] [] [_, _, _] [] [] _ rfl rfl (by kernel_rfl) rfl impl_nil (by have e := from_ok hN10 h1; rw [e.2] at ho17; exact .inl ⟨e.1, bs10, m10, o17, ho17, rfl, by rw [e.2], rfl⟩)
  · refine ⟨trivial, ?_⟩
    refine mv (.tuple _) rfl ?_
    refine xtr (.pointer _) rfl rfl ?_
    refine xtr (.int _ _) rfl rfl ?_
    refine asg (.pointer _) rfl ?_
    refine asg (.int _ _) rfl ?_
    refine jt ?_
    refine c_seq ?_
    refine c_seq ?_
    refine c_reg ?_
    refine mv (.int _ _) rfl ?_
    refine cmp false rfl rfl rfl ?_
    refine jt ?_
    refine c_false rfl ?_
    refine c_skip ?_
    refine e_then ?_
    refine c_seq ?_
    refine c_seq ?_
    refine c_reg ?_
    refine mv (.int _ _) rfl ?_
    refine cmp true rfl rfl rfl ?_
    refine jt ?_
    refine c_true rfl ?_
    refine c_seq ?_
    refine c_reg ?_
    refine mv (.int _ _) rfl ?_
    refine asg (.pointer _) rfl ?_
    refine asg (.int _ _) rfl ?_
    refine jt ?_
    refine c_ret ?_
    exact j_end (own0 := []) (ro0 := [s.seg xs]) (.inl rfl) rfl (hr2 Try.results10 (rvt (v := (.pointer _)) rfl) (rvt (v := (.int _ _)) rfl)) [] [] [] [] [] _ rfl rfl (by kernel_rfl) rfl impl_nil (.inr ⟨by rw [from_out hN10]; decide, by rw [from_out hN10], rfl, rfl⟩)
end Go.Proofs.Ytacfjmjcgolhfaa
