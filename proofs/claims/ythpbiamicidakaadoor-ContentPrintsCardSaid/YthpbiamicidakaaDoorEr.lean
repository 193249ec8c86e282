/- The engine: strings as rows of bytes; tables that are only read. No condition. -/
import Derived.Test.YthpbiamicidakaaDoorEq
import Derived.Lib.ConvBytes
namespace Go.PW
open Enc (enc val)
open Go

abbrev Str := List UInt8
/-- A string's value. -/
abbrev strV (l : Str) : Value := .string ⟨⟨l⟩⟩
instance : Enc (List UInt8) := ⟨1, fun x => [strV x], fun x => strV x, false, fun _ => rfl, fun _ => .inr ⟨rfl, rfl⟩, fun x u hu => by rw [List.mem_singleton] at hu; subst hu; rfl⟩

theorem mk_l (s : ByteArray) : s = ⟨⟨s.data.toList⟩⟩ := rfl
theorem toList_mk (l : Str) : (⟨⟨l⟩⟩ : ByteArray).toList = l := ByteArray.toList_eq _
theorem list_beq (a b : Str) : (a == b) = decide (a = b) := by
  rw [Bool.eq_iff_iff]; simp

theorem eqT_str {P : Program} {t} (h : P.underlying t = some .string) : EqT P t 1 Str := fun d x y w => by
  show (Op.equalIn (d + 1) t (strV x) (strV y)).run P w = _
  rw [run_equalIn_string w d t _ _ h, toList_mk, toList_mk, list_beq]

section
variable {cx : Cx} {md : Md} {ops : Array Oper} {Q : Exit → Act → World → Prop} {rest : List (Oper × Nat)} {kq : Nat} {base : Nat → Value} {L : List (Nat × Value)} {own ro : List Seg}
variable {q : Nat} {d : Nat} {ty : TypeId} {pos : String} {aft : Array Edge} {x y z : Operand} {xt yt : TypeId} {k : IntKind}

theorem encs_bytes (s : Str) : encs s = s.map fun b => Value.int .u8 b.toNat := by
  induction s with
  | nil => rfl
  | cons a r ih => simp only [encs, List.flatMap_cons, List.map_cons] at ih ⊢; rw [ih]; rfl

theorem lenT {s : Str} (hx : ev cx.n base L x = strV s) (hu : cx.P.underlying xt = some .string)
    (h : JG cx md ops Q rest base ((d, .int .i64 (s.length : Int)) :: L) own ro) : JG cx md ops Q ((⟨some d, .call ⟨.builtin .len, #[x], #[xt]⟩, ty, pos, aft, none⟩, q) :: rest) base L own ro :=
  lenStr hx hu h

/-- A byte of a string. -/
theorem idxT {s : Str} {i : Int} (j : Nat) (hx : ev cx.n base L x = strV s) (hy : ev cx.n base L y = .int k i) (hu : cx.P.underlying xt = some .string) (hi : i = (j : Int)) (hj : j < s.length)
    (h : JG cx md ops Q rest base ((d, .int .u8 (s.getD j 0).toNat) :: L) own ro) : JG cx md ops Q ((⟨some d, .index xt x y, ty, pos, aft, none⟩, q) :: rest) base L own ro :=
  qt (fun w _ => by
    subst hi
    have he : s.getD j 0 = s[j] := by rw [List.getD_eq_getElem?_getD, List.getElem?_eq_getElem hj]; rfl
    rw [he]
    have h0 : (⟨⟨s⟩⟩ : ByteArray)[j]? = some s[j] := getElem?_pos (⟨⟨s⟩⟩ : ByteArray) j hj
    simp [execOp, hx, hy, Instr.index, asIntOf, run_underlying hu, h0]) h

theorem extract_l (s : Str) (a b : Nat) : (⟨⟨s⟩⟩ : ByteArray).extract a b = ⟨⟨(s.drop a).take (b - a)⟩⟩ := by
  rw [ByteArray.extract_mk]

/-- A string cut out of a string. -/
theorem cutT {s : Str} {lo hi : Option Operand} (l h : Nat) (hx : ev cx.n base L x = strV s) (hu : cx.P.underlying xt = some .string)
    (hlo : match lo with | none => l = 0 | some o => ∃ k, ev cx.n base L o = .int k (l : Int)) (hhi : match hi with | none => h = s.length | some o => ∃ k, ev cx.n base L o = .int k (h : Int)) (hlh : l ≤ h) (hc : h ≤ s.length)
    (r : Str) (hr' : (s.drop l).take (h - l) = r)
    (hr : JG cx md ops Q rest base ((d, strV r) :: L) own ro) : JG cx md ops Q ((⟨some d, .slice xt x lo hi none, ty, pos, aft, none⟩, q) :: rest) base L own ro :=
  qt (fun w _ => by
    subst hr'
    have hb : ∀ (k : IntKind) (n m : Nat) (c : BoundsCode), n ≤ m → (Instr.sliceBound (.int k (n : Int)) m c).run cx.P w = .ok n w := fun k n m c hnm => by
      simp only [Instr.sliceBound, asIntOf, Sem.run_bind, Sem.run_pure, Result.andThen_ok]
      rw [if_pos ⟨Int.natCast_nonneg n, Int.ofNat_le.mpr hnm⟩]
      simp
    have hsz : (⟨⟨s⟩⟩ : ByteArray).size = s.length := rfl
    have h2 : (Instr.sliceBounds false (⟨⟨s⟩⟩ : ByteArray).size (⟨⟨s⟩⟩ : ByteArray).size (lo.map (ev cx.n base L)) (hi.map (ev cx.n base L)) none).run cx.P w = .ok (l, h, s.length) w := by
      rw [hsz]
      unfold Instr.sliceBounds
      cases hi with
      | none =>
        dsimp only at hhi; subst hhi
        cases lo with
        | none => dsimp only at hlo; subst hlo; simp
        | some o => obtain ⟨k, hk⟩ := hlo; simp [hk, hb k l s.length _ hlh]
      | some o' =>
        obtain ⟨k', hk'⟩ := hhi
        cases lo with
        | none => dsimp only at hlo; subst hlo; simp [hk', hb k' h s.length _ hc]
        | some o => obtain ⟨k, hk⟩ := hlo; simp [hk', hb k' h s.length _ hc, hk, hb k l h _ hlh]
    simp only [execOp, hx, Instr.sliceAt, Sem.run_bind, run_underlying hu, Result.andThen_ok, Instr.slice, Option.map_none, Option.isSome_none, Bool.false_eq_true, if_false, h2, Sem.run_pure, extract_l]) hr

/-- Two strings held against each other. -/
def scv : BinOp → Str → Str → Option Bool
  | .eql, a, b => some (decide (a = b))
  | .neq, a, b => some (!decide (a = b))
  | .lss, a, b => some (Op.bytesLess a b)
  | .leq, a, b => some (Op.bytesLess a b || decide (a = b))
  | .gtr, a, b => some !(Op.bytesLess a b || decide (a = b))
  | .geq, a, b => some !(Op.bytesLess a b)
  | _, _, _ => none
theorem scmp {a b : Str} {op : BinOp} (r : Bool) (hx : ev cx.n base L x = strV a) (hy : ev cx.n base L y = strV b) (hu : cx.P.underlying xt = some .string) (hr : scv op a b = some r)
    (h : JG cx md ops Q rest base ((d, .bool r) :: L) own ro) : JG cx md ops Q ((⟨some d, .binOp op xt x y yt, ty, pos, aft, none⟩, q) :: rest) base L own ro :=
  qt (fun w _ => by
    have hg : (eqGuard op xt x y (strV a) (strV b)).run cx.P w = .ok () w := by
      unfold eqGuard
      cases op <;> simp_all [scv]
    cases op <;> simp only [scv, reduceCtorEq] at hr <;> cases hr <;> simp only [execOp, hx, hy, Sem.run_bind, hg, Result.andThen_ok, binOp, Op.stringOp, toList_mk, list_beq, Sem.run_pure]) h
/-- Two strings put together. -/
theorem sadd {a b : Str} (hx : ev cx.n base L x = strV a) (hy : ev cx.n base L y = strV b) (hl : a.length + b.length ≤ 9223372036854775807)
    (h : JG cx md ops Q rest base ((d, strV (a ++ b)) :: L) own ro) : JG cx md ops Q ((⟨some d, .binOp .add xt x y yt, ty, pos, aft, none⟩, q) :: rest) base L own ro :=
  qt (fun w _ => by
    have hg : (eqGuard .add xt x y (strV a) (strV b)).run cx.P w = .ok () w := by unfold eqGuard; rfl
    have h1 : ((⟨⟨a⟩⟩ : ByteArray).size + (⟨⟨b⟩⟩ : ByteArray).size : Nat) = a.length + b.length := rfl
    have h2 : (⟨⟨a⟩⟩ : ByteArray) ++ ⟨⟨b⟩⟩ = ⟨⟨a ++ b⟩⟩ := by
      apply ByteArray.ext
      rw [ByteArray.data_append]
      apply Array.ext'; simp
    simp only [execOp, hx, hy, Sem.run_bind, hg, Result.andThen_ok, binOp, Op.stringOp, h1, h2]
    rw [if_neg (by simp only [IntKind.max, IntKind.bits, IntKind.signed, if_true]; omega)]
    simp only [Sem.run_pure, Result.andThen_ok]) h

/-- The bytes of a string, in memory of their own. -/
theorem cvSB {s : Str} {src dst e : TypeId} {u : TypeDesc} (hx : ev cx.n base L x = strV s) (hs : cx.P.underlying src = some u) (hd : cx.P.underlying dst = some (.slice e)) (he : cx.P.underlying e = some (.int .u8))
    (h : ∀ (o : Ow), o.ok s → Keep md kq rest (own ++ [o.seg s e]) ro ∧ JG cx md ops Q rest base ((d, o.v s.length) :: L) (own ++ [o.seg s e]) ro) :
    JG cx md ops Q ((⟨some d, .convert src dst x, ty, pos, aft, none⟩, kq + 1) :: rest) base L own ro :=
  nq (Post := fun L' own' ro' => ∃ o : Ow, o.ok s ∧ L' = (d, o.v s.length) :: L ∧ own' = own ++ [o.seg s e] ∧ ro' = ro) rfl
    (fun w K hw hK => by
      let k := grownCap w s.length 0 e
      have hk : s.length ≤ k := by show s.length ≤ grownCap w s.length 0 e; unfold grownCap; simp only [Question.cut]; omega
      have hc : (Lib.bytesCells w e ⟨⟨s⟩⟩) = ⟨encs s ++ List.replicate (k - s.length) (.int .u8 0)⟩ := by
        unfold Lib.bytesCells
        apply Array.ext'
        have hz : (⟨⟨s⟩⟩ : ByteArray).size = s.length := rfl
        simp only [Array.toList_append, Array.toList_map, Array.toList_replicate, hz]
        rw [encs_bytes]
      have hsize : (Lib.bytesCells w e ⟨⟨s⟩⟩).size = k := by
        rw [hc]; simp [encs_length]; show s.length * 1 + (k - s.length) = k; omega
      have hrun : (convert src dst (strV s)).run cx.P w = .ok (.slice (some ⟨w.heap.size, 0, none⟩) s.length k) (Lib.bytesWorld w e ⟨⟨s⟩⟩) := Lib.run_convert_string_bytes w src dst e ⟨⟨s⟩⟩ hs hd he
      unfold Oper.wp
      rw [A_eval_fun]
      simp only [execOp, hx, Sem.run_bind, hrun, Result.andThen_ok, Sem.run_pure, Oper.upon]
      rw [A_put]
      refine hK _ _ _ _ ⟨⟨false, w.heap.size, k, List.replicate (k - s.length) (.int .u8 0)⟩, ⟨by simp, fun _ => by show s.length * 1 + (List.replicate (k - s.length) (Value.int .u8 0)).length = k * 1; rw [List.length_replicate]; omega, hk⟩, rfl, rfl, rfl⟩ ?_
      have ha := hw.alloc (.cells (Lib.bytesCells w e ⟨⟨s⟩⟩) e ((Lib.bytesCells w e ⟨⟨s⟩⟩).size, (Lib.bytesCells w e ⟨⟨s⟩⟩).size + 1)) (.cells (encs s ++ List.replicate (k - s.length) (.int .u8 0)) e)
        ⟨_, by rw [hc], .inl (Nat.le_refl _)⟩
      have heap : (Lib.bytesWorld w e ⟨⟨s⟩⟩).heap = (w.alloc (.cells (Lib.bytesCells w e ⟨⟨s⟩⟩) e ((Lib.bytesCells w e ⟨⟨s⟩⟩).size, (Lib.bytesCells w e ⟨⟨s⟩⟩).size + 1))).heap := by
        apply Array.ext_getElem?
        intro i
        rcases Nat.lt_trichotomy i w.heap.size with hi | hi | hi
        · rw [Lib.bytesWorld_at_old w e _ i hi, new_old w _ i hi]
        · subst hi; rw [Lib.bytesWorld_at_new, new_at]
        · rw [Array.getElem?_eq_none (by rw [Lib.bytesWorld_size]; omega), Array.getElem?_eq_none (by simp; omega)]
      have hext : ∀ (M : List Nat) (w0 : World), Ext M w0 (w.alloc (.cells (Lib.bytesCells w e ⟨⟨s⟩⟩) e ((Lib.bytesCells w e ⟨⟨s⟩⟩).size, (Lib.bytesCells w e ⟨⟨s⟩⟩).size + 1))) → Ext M w0 (Lib.bytesWorld w e ⟨⟨s⟩⟩) := fun M w0 hE =>
        ⟨hE.os, hE.tape, hE.output, by rw [heap]; exact hE.size, fun b h1 h2 => by rw [heap]; exact hE.blk b h1 h2⟩
      have hseg : ∀ s', SegIn (w.alloc (.cells (Lib.bytesCells w e ⟨⟨s⟩⟩) e ((Lib.bytesCells w e ⟨⟨s⟩⟩).size, (Lib.bytesCells w e ⟨⟨s⟩⟩).size + 1))) s' → SegIn (Lib.bytesWorld w e ⟨⟨s⟩⟩) s' := fun s' h p hp => by rw [heap]; exact h p hp
      exact ⟨⟨fun s' hs' => hseg s' (ha.has.o s' hs'), fun s' hs' => hseg s' (ha.has.r s' hs'), ha.has.nd, ha.has.dj⟩, hext _ _ ha.ext, ha.fr, ha.rf⟩)
    (by rintro L' own' ro' ⟨o, ho, rfl, rfl, rfl⟩; exact (h o ho).1)
    (by rintro L' own' ro' ⟨o, ho, rfl, rfl, rfl⟩; exact (h o ho).2)

theorem cut_hi (s : Str) (l : Nat) : (s.drop l).take (s.length - l) = s.drop l := List.take_of_length_le (by simp)
theorem cut_lo (s : Str) (h : Nat) : (s.drop 0).take (h - 0) = s.take h := by simp
theorem getD_some {α : Type} {xs : List α} {i : Nat} {z : α} (h : i < xs.length) : xs[i]? = some (xs.getD i z) := by
  rw [List.getD_eq_getElem?_getD, List.getElem?_eq_getElem h]; rfl

/-- An element, by what is known of it. -/
theorem ldvG {α : Type} [Enc α] {t bk o off : Nat} {xs : List α} (j i : Nat) (v : α) (hx : ev cx.n base L x = .pointer (some ⟨bk, o, none⟩)) (hs : (Src md q own ro)[j]? = some [(bk, .view off (encs xs))])
    (ho : o = off + i * Enc.n α) (hv : xs[i]? = some v) (ht : Ty cx.P t (Enc.n α) (Enc.ag α))
    (h : JG cx md ops Q rest base ((d, val v) :: L) own ro) : JG cx md ops Q ((⟨some d, .load t x, ty, pos, aft, none⟩, q) :: rest) base L own ro := by
  obtain ⟨hi, rfl⟩ := List.getElem?_eq_some_iff.1 hv
  exact ldv j i hx hs ho hi ht h
theorem ldvsG {α : Type} [Enc α] {t bk o : Nat} {s : Vs} {xs : List α} {i : Nat} (j : Nat) (v : α) (hok : s.ok xs) (hx : ev cx.n base L x = .pointer (some ⟨bk, o, none⟩)) (hs : (Src md q own ro)[j]? = some (s.seg xs))
    (hb : bk = s.b) (ho : o = s.off + i * Enc.n α) (hv : xs[i]? = some v) (ht : Ty cx.P t (Enc.n α) (Enc.ag α))
    (h : JG cx md ops Q rest base ((d, val v) :: L) own ro) : JG cx md ops Q ((⟨some d, .load t x, ty, pos, aft, none⟩, q) :: rest) base L own ro := by
  obtain ⟨hi, rfl⟩ := List.getElem?_eq_some_iff.1 hv
  exact ldvs j i hok hx hs hb ho hi ht h
theorem ldsoG {α : Type} [Enc α] {t bk o E : Nat} {s : Ow} {xs : List α} {i : Nat} (j : Nat) (v : α) (hok : s.ok xs) (hx : ev cx.n base L x = .pointer (some ⟨bk, o, none⟩)) (hs : (Src md q own ro)[j]? = some (s.seg xs E))
    (hb : bk = s.vs.b) (ho : o = s.vs.off + i * Enc.n α) (hv : xs[i]? = some v) (ht : Ty cx.P t (Enc.n α) (Enc.ag α))
    (h : JG cx md ops Q rest base ((d, val v) :: L) own ro) : JG cx md ops Q ((⟨some d, .load t x, ty, pos, aft, none⟩, q) :: rest) base L own ro := by
  obtain ⟨hi, rfl⟩ := List.getElem?_eq_some_iff.1 hv
  exact ldso j i hok hx hs hb ho hi ht h
end

theorem ow_impl {α : Type} [Enc α] {o : Ow} {xs : List α} {E : Nat} {src : List Seg} (j : Nat) (hs : src[j]? = some (o.seg xs E)) : Impl src [o.vs.seg xs] := by
  intro t ht p hp
  rw [List.mem_singleton] at ht; subst ht
  cases hn : o.nl with
  | true => simp [Vs.seg, Ow.vs, hn] at hp
  | false =>
    have e : o.vs.seg xs = [(o.b, .view 0 (encs xs))] := by simp [Vs.seg, Ow.vs, hn]
    have hs' : src[j]? = some [(o.b, .cells (encs xs ++ o.sp) E)] := by rw [hs]; simp [Ow.seg, hn]
    rw [e] at hp
    exact impl_view (l := encs xs) (off := 0) j hs' ⟨[], o.sp, by simp, rfl⟩ _ (List.mem_singleton.2 rfl) p hp
theorem impl_trans {a b c : List Seg} (h1 : Impl a b) (h2 : Impl b c) : Impl a c := fun s hs p hp => by
  obtain ⟨s', hs', p', hp', e, hk⟩ := h2 s hs p hp
  obtain ⟨s2, hs2, p2, hp2, e2, hk2⟩ := h1 s' hs' p' hp'
  exact ⟨s2, hs2, p2, hp2, e2.trans e, fun o ho => hk o (hk2 o ho)⟩
theorem ow_sub {α : Type} [Enc α] {o : Ow} {xs : List α} {E : Nat} (h : o.ok xs) (l m : Nat) (hm : l + m ≤ xs.length) {src : List Seg} (j : Nat) (hs : src[j]? = some (o.seg xs E)) : Impl src [(o.vs.sub l (Enc.n α)).seg ((xs.drop l).take m)] :=
  impl_trans (ow_impl j hs) (Vs.sub_impl (Ow.vs_ok h) l m hm 0 rfl)
theorem hx_cons {x a : Value} {xs l r : List Value} (hl : l = x :: xs) (h : x = a) (h2 : xs = r) : l = a :: r := by rw [hl, h, h2]
theorem hx_len {a : Option Addr} {c n m : Nat} (h : n = m) : Value.slice a n c = Value.slice a m c := by rw [h]
theorem nilrow_ok {α : Type} : (⟨true, 0, 0, 0, none⟩ : Vs).ok ([] : List α) := ⟨fun _ => rfl, Nat.le_refl _⟩
theorem impl_nilrow {α : Type} [Enc α] {src : List Seg} : Impl src [(⟨true, 0, 0, 0, none⟩ : Vs).seg ([] : List α)] := fun s hs p hp => by
  rw [List.mem_singleton] at hs; subst hs; cases hp
theorem freshrow_ok {α : Type} (b : Nat) (xs : List α) : (⟨false, b, 0, xs.length, none⟩ : Vs).ok xs := ⟨fun h => by simp at h, Nat.le_refl _⟩
theorem impl_fresh {α : Type} [Enc α] {src : List Seg} {b n E : Nat} {xs : List α} (j : Nat) (h : src[j]? = some [(b, .cells (encs xs) E)]) : Impl src [(⟨false, b, 0, n, none⟩ : Vs).seg xs] :=
  impl_view (l := encs xs) (off := 0) j h ⟨[], [], by simp, rfl⟩
theorem sub0 (o : Ow) (n : Nat) : (o.vs.sub 0 n).adr = o.adr ∧ (o.vs.sub 0 n).cap = o.cap := by
  simp [Vs.sub, Vs.adr, Ow.vs, Ow.adr]
end Go.PW
