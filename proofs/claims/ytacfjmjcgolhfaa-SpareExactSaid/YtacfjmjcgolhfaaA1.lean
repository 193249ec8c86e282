/- Contracts of the program's functions, walked. No condition. -/
import Derived.Test.YtacfjmjcgolhfaaProg
import Derived.Test.YtacfjmjcgolhfaaEj
namespace Go.Proofs.Ytacfjmjcgolhfaa
open Go Go.Proofs Go.PW
open Go.PW.Enc (enc val)
theorem follows : Try.prog.follows .mixedOrders = true := by kernel_rfl
theorem z72 : Zt Try.prog 72 (.agg ⟨cat [pt (zarr : Key), p1 (.int .u32 0)]⟩) := by unfold Zt; kernel_rfl
theorem ty30 : Ty Try.prog 30 32 true := ⟨by kernel_rfl, by kernel_rfl⟩
theorem ty31 : Ty Try.prog 31 1 false := ⟨by kernel_rfl, by kernel_rfl⟩
theorem lay72 : ∀ fs, Try.prog.underlying 72 = some (.struct fs) → Lay Try.prog fs [(0, 32), (32, 1)] := fun fs h => by rw [Try.underlying72] at h; cases h; unfold Lay; kernel_rfl
theorem ty72 : Ty Try.prog 72 33 true := ⟨by kernel_rfl, by kernel_rfl⟩
theorem ty74 : Ty Try.prog 74 1 false := ⟨by kernel_rfl, by kernel_rfl⟩
theorem ty3 : Ty Try.prog 3 1 false := ⟨by kernel_rfl, by kernel_rfl⟩
theorem z30 : Zt Try.prog 30 (.agg ⟨cat [pt (zarr : Key)]⟩) := by unfold Zt; kernel_rfl
theorem ty70 : Ty Try.prog 70 1 false := ⟨by kernel_rfl, by kernel_rfl⟩
theorem zv30 : Zt Try.prog 30 (val (zarr : Key)) := by unfold Zt; kernel_rfl
def plc (s : Spare) : SpP := ⟨s.header, s.n⟩
def skv (s : Spare) : SpP × Key := (plc s, s.message)
def meets (a b : Spare) : Bool := decide (a.header = b.header ∧ a.n = b.n)
theorem eq30 : EqT Try.prog 30 2 Key := eqT_arr Try.underlying30 ⟨by kernel_rfl, by kernel_rfl⟩ (eqT_u8 Try.underlying5)
theorem eq72 : EqT Try.prog 72 3 SpP := eqT_struct (ps := [fun s => pt s.header, fun s => pt s.n]) (bs := [fun a b => decide (a.header = b.header), fun a b => decide (a.n = b.n)]) Try.underlying72 Try.stoodInHeld72 (fun _ => rfl)
  (.cons (by decide) rfl (fun _ => rfl) (fun _ => rfl) ⟨by kernel_rfl, by kernel_rfl⟩ (fun d x y w => eq30 d x.header y.header w)
    (.cons (by decide) rfl (fun _ => rfl) (fun _ => rfl) ⟨by kernel_rfl, by kernel_rfl⟩ (fun d x y w => eqT_u32 Try.underlying31 (d + 1) x.n y.n w) (.nil _)))
  (fun x y => by cases x; cases y; simp)
theorem chk30 : ChkT Try.prog 30 2 Key := chkT_arr Try.underlying30 ⟨by kernel_rfl, by kernel_rfl⟩ (chkT_scalar Try.underlying5 rfl)
theorem chk72 : ChkT Try.prog 72 3 SpP := chkT_struct (ps := [fun s => pt s.header, fun s => pt s.n]) Try.underlying72 (fun _ => rfl)
  (.cons rfl (fun _ => rfl) (fun _ => rfl) ⟨by kernel_rfl, by kernel_rfl⟩ (fun d e x w => chk30 d e x.header w)
    (.cons rfl (fun _ => rfl) (fun _ => rfl) ⟨by kernel_rfl, by kernel_rfl⟩ (fun d e x w => chkT_scalar Try.underlying31 rfl (d + 1) e x.n w) (.nil _)))
theorem eq33 : EqT Try.prog 33 3 Spare := eqT_struct (ps := [fun s => pt s.header, fun s => pt s.n, fun s => pt s.message]) (bs := [fun a b => decide (a.header = b.header), fun a b => decide (a.n = b.n), fun a b => decide (a.message = b.message)]) Try.underlying33 Try.stoodInHeld33 (fun _ => rfl)
  (.cons (by decide) rfl (fun _ => rfl) (fun _ => rfl) ⟨by kernel_rfl, by kernel_rfl⟩ (fun d x y w => eq30 d x.header y.header w)
    (.cons (by decide) rfl (fun _ => rfl) (fun _ => rfl) ⟨by kernel_rfl, by kernel_rfl⟩ (fun d x y w => eqT_u32 Try.underlying31 (d + 1) x.n y.n w)
      (.cons (by decide) rfl (fun _ => rfl) (fun _ => rfl) ⟨by kernel_rfl, by kernel_rfl⟩ (fun d x y w => eq30 d x.message y.message w) (.nil _))))
  (fun x y => by cases x; cases y; simp [Bool.and_assoc])
theorem take_next {α : Type} {xs ys : List α} {k : Nat} (hx : k < xs.length) (hy : k < ys.length) (h : xs.take k = ys.take k) (h2 : xs[k] = ys[k]) : xs.take (k + 1) = ys.take (k + 1) := by
  rw [List.take_succ_eq_append_getElem hx, List.take_succ_eq_append_getElem hy, h, h2]
theorem take_all_eq {α : Type} {xs ys : List α} {k : Nat} (hx : xs.length ≤ k) (hl : xs.length = ys.length) (h : xs.take k = ys.take k) : xs = ys := by
  rwa [List.take_of_length_le hx, List.take_of_length_le (by omega)] at h
theorem key72 : KeyT Try.prog 72 SpP := keyT_of eq72 chk72 rfl rfl Try.underlying72 rfl
theorem key30 : KeyT Try.prog 30 Key := keyT_of eq30 chk30 rfl rfl Try.underlying30 rfl

theorem placeOf_ct (s : Spare) : Ct Try.prog 31 [val s] [] [] (fun v o r => v = val (plc s) ∧ o = [] ∧ r = []) := by
  refine ct_enter Try.func31 rfl Try.ntmps31 (by kernel_rfl) rfl fun w0 => ?_
  refine c_seq ?_
  refine c_reg ?_
  refine bxx [pt s.header, pt s.n, pt s.message] _ rfl rfl fun b1 => ⟨trivial, ?_⟩
  refine alo [pt (zarr : Key), p1 (.int .u32 0)] _ z72 rfl fun b2 => ⟨trivial, ?_⟩
  refine jt ?_
  refine c_seq ?_
  refine c_reg ?_
  refine fad rfl Try.underlying33 rfl ty30.sz ?_
  refine ldp 0 0 _ rfl rfl rfl rfl ty30 ?_
  refine fad rfl Try.underlying33 rfl ty31.sz ?_
  refine ldp 0 1 _ rfl rfl rfl rfl ty31 ?_
  refine bld [pt (zarr : Key), p1 (.int .u32 0)] [(0, pt s.header), (1, pt s.n)] _ Try.underlying72 (lay72 _ Try.underlying72) z72 rfl rfl rfl ?_
  refine stw 1 _ [pt s.header, pt s.n] rfl rfl rfl rfl ty72 ⟨trivial, ?_⟩
  refine jt ?_
  refine c_ret ?_
  exact j_end (own0 := []) (ro0 := []) (.inl rfl) rfl (hr1 Try.results31 (rvc (p := pa [pt s.header, pt s.n]) 1 rfl rfl rfl ty72)) [] [0, 1] [] [_, _] [] _ rfl rfl (by kernel_rfl) rfl impl_nil (⟨rfl, rfl, rfl⟩)

theorem meet_ct (a b : Spare) : Ct Try.prog 30 [val a, val b] [] [] (fun v o r => v = .bool (meets a b) ∧ o = [] ∧ r = []) := by
  refine ct_enter Try.func30 rfl Try.ntmps30 (by kernel_rfl) rfl fun w0 => ?_
  refine c_seq ?_
  refine c_reg ?_
  refine bxx [pt a.header, pt a.n, pt a.message] _ rfl rfl fun b2 => ⟨trivial, ?_⟩
  refine bxx [pt b.header, pt b.n, pt b.message] _ rfl rfl fun b3 => ⟨trivial, ?_⟩
  refine asg (.bool _) rfl ?_
  refine jt ?_
  refine c_seq ?_
  refine c_reg ?_
  refine fad rfl Try.underlying33 rfl ty30.sz ?_
  refine ldp 0 0 _ rfl rfl rfl rfl ty30 ?_
  refine fad rfl Try.underlying33 rfl ty30.sz ?_
  refine ldp 1 0 _ rfl rfl rfl rfl ty30 ?_
  refine eqA a.header b.header _ rfl rfl rfl rfl eq30 rfl Try.eqGuardType30 rfl ?_
  refine mv (.bool _) rfl ?_
  refine jsplit 10 rfl (fun h1 => ?_) (fun h1 => ?_)
  · replace h1 := of_decide_eq_true h1
    refine g_on rfl rfl rfl ?_
    refine fad rfl Try.underlying33 rfl ty31.sz ?_
    refine g_on rfl rfl rfl ?_
    refine ldp 0 1 _ rfl rfl rfl rfl ty31 ?_
    refine g_on rfl rfl rfl ?_
    refine fad rfl Try.underlying33 rfl ty31.sz ?_
    refine g_on rfl rfl rfl ?_
    refine ldp 1 1 _ rfl rfl rfl rfl ty31 ?_
    refine g_on rfl rfl rfl ?_
    refine equ32 (a := a.n) (b := b.n) _ rfl rfl rfl ?_
    refine pkt (.bool _) rfl rfl ?_
    refine asg (.bool _) rfl ?_
    refine jt ?_
    refine c_ret ?_
    exact j_end (own0 := []) (ro0 := []) (.inl rfl) rfl (hr1 Try.results30 (rvt (v := (.bool _)) rfl)) [] [0, 1] [] [_, _] [] _ rfl rfl (by kernel_rfl) rfl impl_nil (⟨by simp_all [meets], rfl, rfl⟩)
  · replace h1 := of_decide_eq_false h1
    refine g_off rfl rfl rfl rfl ?_
    refine g_off rfl rfl rfl rfl ?_
    refine g_off rfl rfl rfl rfl ?_
    refine g_off rfl rfl rfl rfl ?_
    refine g_off rfl rfl rfl rfl ?_
    refine pkf (.bool _) rfl rfl ?_
    refine asg (.bool _) rfl ?_
    refine jt ?_
    refine c_ret ?_
    exact j_end (own0 := []) (ro0 := []) (.inl rfl) rfl (hr1 Try.results30 (rvt (v := (.bool _)) rfl)) [] [0, 1] [] [_, _] [] _ rfl rfl (by kernel_rfl) rfl impl_nil (⟨by simp_all [meets], rfl, rfl⟩)

theorem Len_ct (bs m : Nat) (o : Ow) (most : Int) (l : List Spare) (ho : o.ok (List.map plc l)) : Ct Try.prog 19 [.pointer (some ⟨bs, 0, none⟩)] [] [[(bs, .cells (cat [p1 (.int .i64 most), p1 (.map (some m)), p1 (.slice o.adr (List.map plc l).length o.cap)]) 76)], [(m, .pred (isMap (List.map skv l)))], o.seg (List.map plc l) 72] (fun v o r => v = .int .i64 l.length ∧ o = [] ∧ r = []) := by
  refine ct_enter Try.func19 rfl Try.ntmps19 (by kernel_rfl) rfl fun w0 => ?_
  refine c_seq ?_
  refine c_reg ?_
  refine asg (.int _ _) rfl ?_
  refine jt ?_
  refine c_seq ?_
  refine c_reg ?_
  refine mv (.pointer _) rfl ?_
  refine nlc rfl ?_
  refine fad rfl Try.underlying76 rfl ty74.sz ?_
  refine ldp 0 2 _ rfl rfl rfl rfl ty74 ?_
  refine lenS rfl Try.underlying74 ?_
  refine asg (.int _ _) rfl ?_
  refine jt ?_
  refine c_ret ?_
  exact j_end (own0 := []) (ro0 := [[(bs, .cells (cat [p1 (.int .i64 most), p1 (.map (some m)), p1 (.slice o.adr (List.map plc l).length o.cap)]) 76)], [(m, .pred (isMap (List.map skv l)))], o.seg (List.map plc l) 72]) (.inl rfl) rfl (hr1 Try.results19 (rvt (v := (.int _ _)) rfl)) [] [] [] [] [] _ rfl rfl (by kernel_rfl) rfl impl_nil (⟨by simp, rfl, rfl⟩)

theorem Room_ct (bs m : Nat) (o : Ow) (most : Int) (l : List Spare) (ho : o.ok (List.map plc l)) (hm : 0 ≤ most ∧ most ≤ 2000) (hl : l.length ≤ 2000) : Ct Try.prog 24 [.pointer (some ⟨bs, 0, none⟩)] [] [[(bs, .cells (cat [p1 (.int .i64 most), p1 (.map (some m)), p1 (.slice o.adr (List.map plc l).length o.cap)]) 76)], [(m, .pred (isMap (List.map skv l)))], o.seg (List.map plc l) 72] (fun v o r => v = .int .i64 (most - l.length) ∧ o = [] ∧ r = []) := by
  have hl2 : (List.map plc l).length ≤ 2000 := by simpa using hl
  refine ct_enter Try.func24 rfl Try.ntmps24 (by kernel_rfl) rfl fun w0 => ?_
  refine c_seq ?_
  refine c_reg ?_
  refine asg (.int _ _) rfl ?_
  refine jt ?_
  refine c_seq ?_
  refine c_dr [_, _, _] [] [(0, 0), (1, 0), (2, 0), (3, 0), (4, 0), (5, 0), (6, 0), (7, 0), (8, 0), (9, 0), (10, 0)] follows (by kernel_rfl) calm_body (keepS [0, 1, 2] rfl) ?_
  refine mv (.pointer _) rfl ?_
  refine nlc rfl ?_
  refine fad rfl Try.underlying76 rfl ty3.sz ?_
  refine ldp 0 0 _ rfl rfl rfl rfl ty3 ?_
  refine mv (.pointer _) rfl ?_
  refine nlc rfl ?_
  refine fad rfl Try.underlying76 rfl ty74.sz ?_
  refine ldp 0 2 _ rfl rfl rfl rfl ty74 ?_
  refine lenS rfl Try.underlying74 ?_
  refine subi rfl rfl rfl (by omega) ?_
  refine asg (.int _ _) rfl ?_
  refine jt ?_
  refine c_ret ?_
  exact j_end (own0 := []) (ro0 := [[(bs, .cells (cat [p1 (.int .i64 most), p1 (.map (some m)), p1 (.slice o.adr (List.map plc l).length o.cap)]) 76)], [(m, .pred (isMap (List.map skv l)))], o.seg (List.map plc l) 72]) (.inl rfl) rfl (hr1 Try.results24 (rvt (v := (.int _ _)) rfl)) [] [] [] [] [] _ rfl rfl (by kernel_rfl) rfl impl_nil (⟨by simp, rfl, rfl⟩)

theorem Find_ct (bs m : Nat) (o : Ow) (most : Int) (l : List Spare) (ho : o.ok (List.map plc l)) (h : Key) (n : UInt32) : Ct Try.prog 20 [.pointer (some ⟨bs, 0, none⟩), val h, .int .u32 n.toNat] [] [[(bs, .cells (cat [p1 (.int .i64 most), p1 (.map (some m)), p1 (.slice o.adr (List.map plc l).length o.cap)]) 76)], [(m, .pred (isMap (List.map skv l)))], o.seg (List.map plc l) 72] (fun v o r => v = .tuple #[val ((mget (⟨h, n⟩ : SpP) (List.map skv l)).getD zarr), .bool (mget (⟨h, n⟩ : SpP) (List.map skv l)).isSome] ∧ o = [] ∧ r = []) := by
  refine ct_enter Try.func20 rfl Try.ntmps20 (by kernel_rfl) rfl fun w0 => ?_
  refine c_seq ?_
  refine c_reg ?_
  refine bxx [pt h] _ rfl rfl fun b4 => ⟨trivial, ?_⟩
  refine alo [pt (zarr : Key)] _ z30 rfl fun b6 => ⟨trivial, ?_⟩
  refine asg (.bool _) rfl ?_
  refine jt ?_
  refine c_seq ?_
  refine c_dr [_, _, _, _, _] [] [(0, 0), (1, 0), (2, 0), (3, 0), (4, 0), (5, 0), (6, 0), (7, 0), (8, 0), (9, 0), (10, 0), (11, 1), (12, 1), (13, 0)] follows (by kernel_rfl) calm_body (keepS [0, 1, 2, 3, 4] rfl) ?_
  refine mv (.pointer _) rfl ?_
  refine nlc rfl ?_
  refine fad rfl Try.underlying76 rfl ty70.sz ?_
  refine ldp 2 1 _ rfl rfl rfl rfl ty70 ?_
  refine ldp 0 0 _ rfl rfl rfl rfl ty30 ?_
  refine mv (.int _ _) rfl ?_
  refine bld [pt (zarr : Key), p1 (.int .u32 0)] [(0, pt h), (1, pt n)] _ Try.underlying72 (lay72 _ Try.underlying72) z72 rfl rfl rfl ?_
  refine lk2 3 (List.map skv l) (⟨h, n⟩ : SpP) (zarr : Key) rfl rfl rfl Try.underlying70 key72 zv30 rfl ?_
  refine mv (.tuple _) rfl ?_
  refine xtr (.agg _) rfl rfl ?_
  refine xtr (.bool _) rfl rfl ?_
  refine alo [pt (zarr : Key)] _ z30 rfl fun b8 => ⟨keepI [0, 1, 3, 4, 5] rfl, ?_⟩
  refine stw 2 _ [pt ((mget (⟨h, n⟩ : SpP) (List.map skv l)).getD (zarr : Key))] rfl rfl rfl rfl ty30 ⟨keepI [0, 1, 3, 4, 5] rfl, ?_⟩
  refine asg (.bool _) rfl ?_
  refine jt ?_
  refine c_seq ?_
  refine c_reg ?_
  refine ldp 2 0 _ rfl rfl rfl rfl ty30 ?_
  refine mv (.bool _) rfl ?_
  refine stw 1 _ [pt ((mget (⟨h, n⟩ : SpP) (List.map skv l)).getD (zarr : Key))] rfl rfl rfl rfl ty30 ⟨trivial, ?_⟩
  refine asg (.bool _) rfl ?_
  refine jt ?_
  refine c_ret ?_
  exact j_end (own0 := []) (ro0 := [[(bs, .cells (cat [p1 (.int .i64 most), p1 (.map (some m)), p1 (.slice o.adr (List.map plc l).length o.cap)]) 76)], [(m, .pred (isMap (List.map skv l)))], o.seg (List.map plc l) 72]) (.inl rfl) rfl (hr2 Try.results20 (rvc (p := pt ((mget (⟨h, n⟩ : SpP) (List.map skv l)).getD (zarr : Key))) 1 rfl rfl rfl ty30) (rvt (v := (.bool _)) rfl)) [] [0, 1, 2] [] [_, _, _] [] _ rfl rfl (by kernel_rfl) rfl impl_nil (⟨rfl, rfl, rfl⟩)
end Go.Proofs.Ytacfjmjcgolhfaa
