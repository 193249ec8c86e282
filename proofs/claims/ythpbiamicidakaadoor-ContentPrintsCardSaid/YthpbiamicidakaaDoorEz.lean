/- The engine: rows within a block, slices of arrays, strings that are appended. No condition. -/
import Derived.Test.YthpbiamicidakaaDoorEy
namespace Go.PW
open Enc (enc val)
open Go

/-- A block with a row in it. -/
def Gseg {α : Type} [Enc α] (b E : Nat) (pre : List Value) (xs : List α) (post : List Value) : Seg := [(b, .cells (pre ++ (encs xs ++ post)) E)]
theorem gr_of {α : Type} [Enc α] {n : Nat} (b E : Nat) (a : Arr α n) (l m : Nat) (h : l + m ≤ n) : [(b, Ck.cells (cat [pt a]) E)] = Gseg b E (encs (a.l.take l)) ((a.l.drop l).take m) (encs (a.l.drop (l + m))) := by
  have e1 : a.l = a.l.take l ++ ((a.l.drop l).take m ++ a.l.drop (l + m)) := by rw [← List.drop_drop, List.take_append_drop, List.take_append_drop]
  show [(b, Ck.cells (encs a.l) E)] = _
  unfold Gseg
  conv => lhs; rw [e1]
  rw [encs_append, encs_append]
theorem gr_of0 {α : Type} [Enc α] {n : Nat} (b E : Nat) (a : Arr α n) (m : Nat) (h : m ≤ n) : [(b, Ck.cells (cat [pt a]) E)] = Gseg b E [] (a.l.take m) (encs (a.l.drop m)) := by
  have := gr_of b E a 0 m (by omega)
  rw [List.take_zero, List.drop_zero, Nat.zero_add] at this
  exact this
theorem gr_len0 {α : Type} {n : Nat} (a : Arr α n) (m : Nat) (h : m ≤ n) : (a.l.take m).length = m := by
  rw [List.length_take, a.h, Nat.min_eq_left h]
/-- A part of a block that is an array, to be read as a row. -/
theorem impl_part {α : Type} [Enc α] {n : Nat} {src : List Seg} {b E cp o : Nat} {ps : List Pt} (a : Arr α n) (i j : Nat) (h : src[j]? = some [(b, .cells (cat ps) E)]) (hp : ps[i]? = some (pt a)) (ho : psum ps i = o) : Impl src [(⟨false, b, o, cp, none⟩ : Vs).seg a.l] := by
  obtain ⟨pre, post, h1, h2, _⟩ := cat_split hp
  exact impl_view (l := encs a.l) (off := o) j h ⟨pre, post, h1, h2.trans ho⟩
theorem part_ok {α : Type} [Enc α] {n : Nat} (b o : Nat) (a : Arr α n) (cp : Nat) (h : n ≤ cp) : (⟨false, b, o, cp, none⟩ : Vs).ok a.l := ⟨fun h => by simp at h, by rw [a.h]; exact h⟩
theorem gr_pre {α : Type} [Enc α] {n : Nat} (a : Arr α n) (l : Nat) (h : l ≤ n) : (encs (a.l.take l)).length = l * Enc.n α := by
  rw [encs_length, List.length_take, Nat.min_eq_left (by rw [a.h]; exact h)]
theorem gr_len {α : Type} {n : Nat} (a : Arr α n) (l m : Nat) (h : l + m ≤ n) : ((a.l.drop l).take m).length = m := by
  rw [List.length_take, List.length_drop, a.h, Nat.min_eq_left (by omega)]

section
variable {cx : Cx} {md : Md} {ops : Array Oper} {Q : Exit → Act → World → Prop} {rest : List (Oper × Nat)} {kq : Nat} {base : Nat → Value} {L : List (Nat × Value)} {own ro : List Seg}
variable {q : Nat} {d : Nat} {ty : TypeId} {pos : String} {aft : Array Edge} {x y z : Operand} {xt yt : TypeId}

/-- A part of an array, as a slice. -/
theorem slaA {bk o n sz : Nat} {e : TypeId} {lo hi : Option Operand} (l h : Nat) (hx : ev cx.n base L x = .pointer (some ⟨bk, o, none⟩)) (hu : cx.P.underlying xt = some (.array n e)) (hs : (cx.P.info? e).map (·.size) = some sz)
    (hlo : match lo with | none => l = 0 | some o => ∃ k, ev cx.n base L o = .int k (l : Int)) (hhi : match hi with | none => h = n | some o => ∃ k, ev cx.n base L o = .int k (h : Int)) (hlh : l ≤ h) (hc : h ≤ n) (hl : l < n)
    (hr : JG cx md ops Q rest base ((d, .slice (some ⟨bk, o + l * sz, none⟩) (h - l) (n - l)) :: L) own ro) : JG cx md ops Q ((⟨some d, .slice xt x lo hi none, ty, pos, aft, none⟩, q) :: rest) base L own ro :=
  qt (fun w _ => by
    have hb : ∀ (k : IntKind) (n m : Nat) (c : BoundsCode), n ≤ m → (Instr.sliceBound (.int k (n : Int)) m c).run cx.P w = .ok n w := fun k n m c hnm => by
      simp only [Instr.sliceBound, asIntOf, Sem.run_bind, Sem.run_pure, Result.andThen_ok]
      rw [if_pos ⟨Int.natCast_nonneg n, Int.ofNat_le.mpr hnm⟩]
      simp
    have h2 : (Instr.sliceBounds false n n (lo.map (ev cx.n base L)) (hi.map (ev cx.n base L)) none).run cx.P w = .ok (l, h, n) w := by
      unfold Instr.sliceBounds
      cases hi with
      | none =>
        dsimp only at hhi; subst hhi
        cases lo with
        | none => dsimp only at hlo; subst hlo; simp
        | some o => obtain ⟨k, hk⟩ := hlo; simp [hk, hb k l _ _ hlh]
      | some o' =>
        obtain ⟨k', hk'⟩ := hhi
        cases lo with
        | none => dsimp only at hlo; subst hlo; simp [hk', hb k' h _ _ hc]
        | some o => obtain ⟨k, hk⟩ := hlo; simp [hk', hb k' h _ _ hc, hk, hb k l h _ hlh]
    have hne : ¬ n = l := by omega
    simp only [execOp, hx, Instr.sliceAt, Sem.run_bind, run_underlying hu, Result.andThen_ok, Instr.sureAddr, Sem.run_pure, Option.map_none, h2, run_sizeOf' hs, if_neg hne, add_none]) hr

/-- A store into a row within a block. -/
theorem stG {α : Type} [Enc α] {t bk o E : Nat} {pre post : List Value} (j i : Nat) (xs : List α) (v : α) (hx : ev cx.n base L x = .pointer (some ⟨bk, o, none⟩)) (hy : ev cx.n base L y = val v) (hs : own[j]? = some (Gseg bk E pre xs post))
    (ho : o = pre.length + i * Enc.n α) (hi : i < xs.length) (ht : Ty cx.P t (Enc.n α) (Enc.ag α))
    (h : Keep md kq rest (own.set j (Gseg bk E pre (xs.set i v) post)) ro ∧ JG cx md ops Q rest base L (own.set j (Gseg bk E pre (xs.set i v) post)) ro) :
    JG cx md ops Q ((⟨none, .store t x y, ty, pos, aft, none⟩, kq + 1) :: rest) base L own ro := by
  have e1 : pre ++ (encs xs ++ post) = (pre ++ encs (xs.take i)) ++ (enc xs[i] ++ (encs (xs.drop (i + 1)) ++ post)) := by
    rw [encs_split xs i hi]; simp
  have e2 : Gseg bk E pre (xs.set i v) post = [(bk, .cells ((pre ++ encs (xs.take i)) ++ ((pt v).c ++ (encs (xs.drop (i + 1)) ++ post))) E)] := by
    unfold Gseg; rw [encs_set xs i hi]; simp [pt]
  rw [e2] at h
  exact stg (p := pt v) hx hy hs ht e1 (by rw [Enc.len]; rfl) (by rw [List.length_append, encs_length, List.length_take, Nat.min_eq_left (by omega)]; exact ho.symm) h
/-- An element of a row within a block. -/
theorem ldGr {α : Type} [Enc α] {t bk o E : Nat} {pre post : List Value} (j i : Nat) (xs : List α) (v : α) (hx : ev cx.n base L x = .pointer (some ⟨bk, o, none⟩)) (hs : (Src md q own ro)[j]? = some (Gseg bk E pre xs post))
    (ho : o = pre.length + i * Enc.n α) (hv : xs[i]? = some v) (ht : Ty cx.P t (Enc.n α) (Enc.ag α))
    (h : JG cx md ops Q rest base ((d, val v) :: L) own ro) : JG cx md ops Q ((⟨some d, .load t x, ty, pos, aft, none⟩, q) :: rest) base L own ro := by
  obtain ⟨hi, rfl⟩ := List.getElem?_eq_some_iff.1 hv
  exact ldg (p := pt xs[i]) hx (List.mem_of_getElem? hs) ht (fun w hw => cellsAt_cells hw (List.mem_singleton.2 rfl) (pre := pre ++ encs (xs.take i)) (post := encs (xs.drop (i + 1)) ++ post)
    (by rw [encs_split xs i hi]; simp [pt]) (by rw [List.length_append, encs_length, List.length_take, Nat.min_eq_left (Nat.le_of_lt hi)]; exact ho.symm)) h

theorem cvC {bk o E : Nat} {c pre post : List Value} {ys : Str} {len cp : Nat} {src dst e : TypeId} (j : Nat) (hx : ev cx.n base L x = .slice (some ⟨bk, o, none⟩) len cp) (hl : len = ys.length) (hs : (Src md q own ro)[j]? = some [(bk, .cells c E)])
    (hcc : c = pre ++ (encs ys ++ post)) (ho : pre.length = o) (hsrc : cx.P.underlying src = some (.slice e)) (hd : cx.P.underlying dst = some .string) (he : cx.P.underlying e = some (.int .u8))
    (h : JG cx md ops Q rest base ((d, strV ys) :: L) own ro) : JG cx md ops Q ((⟨some d, .convert src dst x, ty, pos, aft, none⟩, q) :: rest) base L own ro :=
  qt (fun w hw => by
    subst hl
    have hseg := hw _ (List.mem_of_getElem? hs)
    have hc : cellsAt w bk o (encs ys) := cellsAt_cells hseg (List.mem_singleton.2 rfl) hcc ho
    have hl := run_loadCells_list (P := cx.P) w ⟨bk, o, none⟩ ((ys.map (fun b => (b.toNat : Int))).map (Value.int .u8)) (fun j v hj => by
      rw [add_none]
      refine hc j v ?_
      rw [encs_bytes]
      simpa using hj)
    simp only [List.length_map] at hl
    have hr : (convert src dst (.slice (some ⟨bk, o, none⟩) ys.length cp)).run cx.P w = .ok (strV ys) w := by
      rw [run_convert_bytes_string w src dst e _ ys.length cp hsrc he hd, run_bytesToString w _ ys.length cp _ hl, foldl_push_byteCells]
      have he0 : ByteArray.empty.data = #[] := rfl
      rw [he0]
      simp
    simp only [execOp, hx, Sem.run_bind, hr, Result.andThen_ok, Sem.run_pure]) h
/-- The bytes of a row within a block, as a string. -/
theorem cvG {bk o E : Nat} {pre post : List Value} {ys : Str} {len cp : Nat} {src dst e : TypeId} (j : Nat) (hx : ev cx.n base L x = .slice (some ⟨bk, o, none⟩) len cp) (hl : len = ys.length) (hs : (Src md q own ro)[j]? = some (Gseg bk E pre ys post))
    (ho : pre.length = o) (hsrc : cx.P.underlying src = some (.slice e)) (hd : cx.P.underlying dst = some .string) (he : cx.P.underlying e = some (.int .u8))
    (h : JG cx md ops Q rest base ((d, strV ys) :: L) own ro) : JG cx md ops Q ((⟨some d, .convert src dst x, ty, pos, aft, none⟩, q) :: rest) base L own ro :=
  cvC j hx hl hs rfl ho hsrc hd he h
/-- The bytes of a part of an array, as a string. -/
theorem cvA {bk o E n l : Nat} {ps : List Pt} (a : Arr UInt8 n) (m i : Nat) {len cp : Nat} {src dst e : TypeId} (j : Nat) (hx : ev cx.n base L x = .slice (some ⟨bk, o, none⟩) len cp) (hl : len = m) (hs : (Src md q own ro)[j]? = some [(bk, .cells (cat ps) E)])
    (hp : ps[i]? = some (pt a)) (ho : o = psum ps i + l * 1) (hm : l + m ≤ n) (hsrc : cx.P.underlying src = some (.slice e)) (hd : cx.P.underlying dst = some .string) (he : cx.P.underlying e = some (.int .u8))
    (h : JG cx md ops Q rest base ((d, strV ((a.l.drop l).take m)) :: L) own ro) : JG cx md ops Q ((⟨some d, .convert src dst x, ty, pos, aft, none⟩, q) :: rest) base L own ro := by
  obtain ⟨pre, post, h1, h2, _⟩ := cat_split hp
  have e1 : a.l = a.l.take l ++ ((a.l.drop l).take m ++ a.l.drop (l + m)) := by rw [← List.drop_drop, List.take_append_drop, List.take_append_drop]
  have hlen := gr_len a l m hm
  refine cvC (pre := pre ++ encs (a.l.take l)) (post := encs (a.l.drop (l + m)) ++ post) j hx (by rw [hlen]; exact hl) hs ?_ ?_ hsrc hd he h
  · rw [h1]; show pre ++ (encs a.l ++ post) = _
    conv => lhs; rw [e1]
    rw [encs_append, encs_append]; simp
  · rw [List.length_append, gr_pre a l (by omega), h2]; exact ho.symm
end

/-- A string gives its bytes. -/
theorem gives_str {P : Program} {S : List Seg} (s : Str) : Gives P S (strV s) s := fun w _ => by
  refine ⟨rfl, ?_⟩
  simp only [Builtin.firstCells, Sem.run_pure]
  congr 1
  have : (⟨⟨s⟩⟩ : ByteArray).extract 0 s.length = ⟨⟨s⟩⟩ := by rw [extract_l]; simp
  rw [this, encs_bytes]
  apply Array.ext'; simp
end Go.PW
