/- Laws of an engine and of the program's functions, gathered. No condition. -/
import Derived.Test.YtakbbpahfclgnaaGreatDoorV1
import Derived.Lib.DecodeN
import Derived.LaidLaws
import Derived.LaidMore
import Derived.Handed
import Derived.Stop.Joined
open Go.Proofs.Tryz renaming underlying2 → uy2, underlying3 → uy3, underlying5 → uy5, underlying9 → uy9, underlying24 → uy24, underlying72 → uy72, underlying80 → uy80, underlying93 → uy93, underlying137 → uy137, underlying153 → uy153, underlying161 → uy161, underlying191 → uy191, underlying193 → uy193, underlying211 → uy211, underlying212 → uy212, underlying214 → uy214, underlying217 → uy217, underlying224 → uy224, underlying227 → uy227, underlying228 → uy228, underlying235 → uy235
set_option maxRecDepth 20000
set_option maxHeartbeats 4000000
namespace Go.PW
open Enc (enc val)
open Go
def Gseg {α : Type} [Enc α] (b E : Nat) (pre : List Value) (xs : List α) (post : List Value) : Seg := [(b, .cells (pre ++ (encs xs ++ post)) E)]
theorem gr_of {α : Type} [Enc α] {n : Nat} (b E : Nat) (a : Arr α n) (l m : Nat) (h : l + m ≤ n) : [(b, Ck.cells (cat [pt a]) E)] = Gseg b E (encs (a.l.take l)) ((a.l.drop l).take m) (encs (a.l.drop (l + m))) := by
  have e1 : a.l = a.l.take l ++ ((a.l.drop l).take m ++ a.l.drop (l + m)) := by rw [← List.drop_drop, List.take_append_drop, List.take_append_drop]
  show [(b, Ck.cells (encs a.l) E)] = _
  unfold Gseg
  conv => lhs; rw [e1]
  rw [encs_append, encs_append]
theorem gr_of0 {α : Type} [Enc α] {n : Nat} (b E : Nat) (a : Arr α n) (m : Nat) (h : m ≤ n) : [(b, Ck.cells (cat [pt a]) E)] = Gseg b E [] (a.l.take m) (encs (a.l.drop m)) := by
  have := gr_of b E a 0 m (by omega)
  rw [List.take_zero, List.drop_zero, Nat.zero_add] at this
  exact this
theorem gr_len0 {α : Type} {n : Nat} (a : Arr α n) (m : Nat) (h : m ≤ n) : (a.l.take m).length = m := by
  rw [List.length_take, a.h, Nat.min_eq_left h]
theorem gr_pre {α : Type} [Enc α] {n : Nat} (a : Arr α n) (l : Nat) (h : l ≤ n) : (encs (a.l.take l)).length = l * Enc.n α := by
  rw [encs_length, List.length_take, Nat.min_eq_left (by rw [a.h]; exact h)]
theorem gr_len {α : Type} {n : Nat} (a : Arr α n) (l m : Nat) (h : l + m ≤ n) : ((a.l.drop l).take m).length = m := by
  rw [List.length_take, List.length_drop, a.h, Nat.min_eq_left (by omega)]
section
variable {cx : Cx} {md : Md} {ops : Array Oper} {Q : Exit → Act → World → Prop} {rest : List (Oper × Nat)} {kq : Nat} {base : Nat → Value} {L : List (Nat × Value)} {own ro : List Seg}
variable {q : Nat} {d : Nat} {ty : TypeId} {pos : String} {aft : Array Edge} {x y z : Operand} {xt yt : TypeId}
theorem slaA {bk o n sz : Nat} {e : TypeId} {lo hi : Option Operand} (l h : Nat) (hx : ev cx.n base L x = .pointer (some ⟨bk, o, none⟩)) (hu : cx.P.underlying xt = some (.array n e)) (hs : (cx.P.info? e).map (·.size) = some sz)
    (hlo : match lo with | none => l = 0 | some o => ∃ k, ev cx.n base L o = .int k (l : Int)) (hhi : match hi with | none => h = n | some o => ∃ k, ev cx.n base L o = .int k (h : Int)) (hlh : l ≤ h) (hc : h ≤ n) (hl : l < n)
    (hr : JG cx md ops Q rest base ((d, .slice (some ⟨bk, o + l * sz, none⟩) (h - l) (n - l)) :: L) own ro) : JG cx md ops Q ((⟨some d, .slice xt x lo hi none, ty, pos, aft, none⟩, q) :: rest) base L own ro :=
  qt (fun w _ => by
    have hb : ∀ (k : IntKind) (n m : Nat) (c : BoundsCode), n ≤ m → (Instr.sliceBound (.int k (n : Int)) m c).run cx.P w = .ok n w := fun k n m c hnm => by
      simp only [Instr.sliceBound, asIntOf, Sem.run_bind, Sem.run_pure, Result.andThen_ok]
      rw [if_pos ⟨Int.natCast_nonneg n, Int.ofNat_le.mpr hnm⟩]
      simp
    have h2 : (Instr.sliceBounds false n n (lo.map (ev cx.n base L)) (hi.map (ev cx.n base L)) none).run cx.P w = .ok (l, h, n) w := by
      unfold Instr.sliceBounds
      cases hi with
      | none =>
        dsimp only at hhi; subst hhi
        cases lo with
        | none => dsimp only at hlo; subst hlo; simp
        | some o => obtain ⟨k, hk⟩ := hlo; simp [hk, hb k l _ _ hlh]
      | some o' =>
        obtain ⟨k', hk'⟩ := hhi
        cases lo with
        | none => dsimp only at hlo; subst hlo; simp [hk', hb k' h _ _ hc]
        | some o => obtain ⟨k, hk⟩ := hlo; simp [hk', hb k' h _ _ hc, hk, hb k l h _ hlh]
    have hne : ¬ n = l := by omega
    simp only [execOp, hx, Instr.sliceAt, Sem.run_bind, run_underlying hu, Result.andThen_ok, Instr.sureAddr, Sem.run_pure, Option.map_none, h2, run_sizeOf' hs, if_neg hne, add_none]) hr
theorem stG {α : Type} [Enc α] {t bk o E : Nat} {pre post : List Value} (j i : Nat) (xs : List α) (v : α) (hx : ev cx.n base L x = .pointer (some ⟨bk, o, none⟩)) (hy : ev cx.n base L y = val v) (hs : own[j]? = some (Gseg bk E pre xs post))
    (ho : o = pre.length + i * Enc.n α) (hi : i < xs.length) (ht : Ty cx.P t (Enc.n α) (Enc.ag α))
    (h : Keep md kq rest (own.set j (Gseg bk E pre (xs.set i v) post)) ro ∧ JG cx md ops Q rest base L (own.set j (Gseg bk E pre (xs.set i v) post)) ro) :
    JG cx md ops Q ((⟨none, .store t x y, ty, pos, aft, none⟩, kq + 1) :: rest) base L own ro := by
  have e1 : pre ++ (encs xs ++ post) = (pre ++ encs (xs.take i)) ++ (enc xs[i] ++ (encs (xs.drop (i + 1)) ++ post)) := by
    rw [encs_split xs i hi]; simp
  have e2 : Gseg bk E pre (xs.set i v) post = [(bk, .cells ((pre ++ encs (xs.take i)) ++ ((pt v).c ++ (encs (xs.drop (i + 1)) ++ post))) E)] := by
    unfold Gseg; rw [encs_set xs i hi]; simp [pt]
  rw [e2] at h
  exact stg (p := pt v) hx hy hs ht e1 (by rw [Enc.len]; rfl) (by rw [List.length_append, encs_length, List.length_take, Nat.min_eq_left (by omega)]; exact ho.symm) h
theorem ldGr {α : Type} [Enc α] {t bk o E : Nat} {pre post : List Value} (j i : Nat) (xs : List α) (v : α) (hx : ev cx.n base L x = .pointer (some ⟨bk, o, none⟩)) (hs : (Src md q own ro)[j]? = some (Gseg bk E pre xs post))
    (ho : o = pre.length + i * Enc.n α) (hv : xs[i]? = some v) (ht : Ty cx.P t (Enc.n α) (Enc.ag α))
    (h : JG cx md ops Q rest base ((d, val v) :: L) own ro) : JG cx md ops Q ((⟨some d, .load t x, ty, pos, aft, none⟩, q) :: rest) base L own ro := by
  obtain ⟨hi, rfl⟩ := List.getElem?_eq_some_iff.1 hv
  exact ldg (p := pt xs[i]) hx (List.mem_of_getElem? hs) ht (fun w hw => cellsAt_cells hw (List.mem_singleton.2 rfl) (pre := pre ++ encs (xs.take i)) (post := encs (xs.drop (i + 1)) ++ post)
    (by rw [encs_split xs i hi]; simp [pt]) (by rw [List.length_append, encs_length, List.length_take, Nat.min_eq_left (Nat.le_of_lt hi)]; exact ho.symm)) h
theorem cvC {bk o E : Nat} {c pre post : List Value} {ys : Str} {len cp : Nat} {src dst e : TypeId} (j : Nat) (hx : ev cx.n base L x = .slice (some ⟨bk, o, none⟩) len cp) (hl : len = ys.length) (hs : (Src md q own ro)[j]? = some [(bk, .cells c E)])
    (hcc : c = pre ++ (encs ys ++ post)) (ho : pre.length = o) (hsrc : cx.P.underlying src = some (.slice e)) (hd : cx.P.underlying dst = some .string) (he : cx.P.underlying e = some (.int .u8))
    (h : JG cx md ops Q rest base ((d, strV ys) :: L) own ro) : JG cx md ops Q ((⟨some d, .convert src dst x, ty, pos, aft, none⟩, q) :: rest) base L own ro :=
  qt (fun w hw => by
    subst hl
    have hseg := hw _ (List.mem_of_getElem? hs)
    have hc : cellsAt w bk o (encs ys) := cellsAt_cells hseg (List.mem_singleton.2 rfl) hcc ho
    have hl := run_loadCells_list (P := cx.P) w ⟨bk, o, none⟩ ((ys.map (fun b => (b.toNat : Int))).map (Value.int .u8)) (fun j v hj => by
      rw [add_none]
      refine hc j v ?_
      rw [encs_bytes]
      simpa using hj)
    simp only [List.length_map] at hl
    have hr : (convert src dst (.slice (some ⟨bk, o, none⟩) ys.length cp)).run cx.P w = .ok (strV ys) w := by
      rw [run_convert_bytes_string w src dst e _ ys.length cp hsrc he hd, run_bytesToString w _ ys.length cp _ hl, foldl_push_byteCells]
      have he0 : ByteArray.empty.data = #[] := rfl
      rw [he0]
      simp
    simp only [execOp, hx, Sem.run_bind, hr, Result.andThen_ok, Sem.run_pure]) h
theorem cvG {bk o E : Nat} {pre post : List Value} {ys : Str} {len cp : Nat} {src dst e : TypeId} (j : Nat) (hx : ev cx.n base L x = .slice (some ⟨bk, o, none⟩) len cp) (hl : len = ys.length) (hs : (Src md q own ro)[j]? = some (Gseg bk E pre ys post))
    (ho : pre.length = o) (hsrc : cx.P.underlying src = some (.slice e)) (hd : cx.P.underlying dst = some .string) (he : cx.P.underlying e = some (.int .u8))
    (h : JG cx md ops Q rest base ((d, strV ys) :: L) own ro) : JG cx md ops Q ((⟨some d, .convert src dst x, ty, pos, aft, none⟩, q) :: rest) base L own ro :=
  cvC j hx hl hs rfl ho hsrc hd he h
theorem cvA {bk o E n l : Nat} {ps : List Pt} (a : Arr UInt8 n) (m i : Nat) {len cp : Nat} {src dst e : TypeId} (j : Nat) (hx : ev cx.n base L x = .slice (some ⟨bk, o, none⟩) len cp) (hl : len = m) (hs : (Src md q own ro)[j]? = some [(bk, .cells (cat ps) E)])
    (hp : ps[i]? = some (pt a)) (ho : o = psum ps i + l * 1) (hm : l + m ≤ n) (hsrc : cx.P.underlying src = some (.slice e)) (hd : cx.P.underlying dst = some .string) (he : cx.P.underlying e = some (.int .u8))
    (h : JG cx md ops Q rest base ((d, strV ((a.l.drop l).take m)) :: L) own ro) : JG cx md ops Q ((⟨some d, .convert src dst x, ty, pos, aft, none⟩, q) :: rest) base L own ro := by
  obtain ⟨pre, post, h1, h2, _⟩ := cat_split hp
  have e1 : a.l = a.l.take l ++ ((a.l.drop l).take m ++ a.l.drop (l + m)) := by rw [← List.drop_drop, List.take_append_drop, List.take_append_drop]
  have hlen := gr_len a l m hm
  refine cvC (pre := pre ++ encs (a.l.take l)) (post := encs (a.l.drop (l + m)) ++ post) j hx (by rw [hlen]; exact hl) hs ?_ ?_ hsrc hd he h
  · rw [h1]; show pre ++ (encs a.l ++ post) = _
    conv => lhs; rw [e1]
    rw [encs_append, encs_append]; simp
  · rw [List.length_append, gr_pre a l (by omega), h2]; exact ho.symm
end
theorem gives_str {P : Program} {S : List Seg} (s : Str) : Gives P S (strV s) s := fun w _ => by
  refine ⟨rfl, ?_⟩
  simp only [Builtin.firstCells, Sem.run_pure]
  congr 1
  have : (⟨⟨s⟩⟩ : ByteArray).extract 0 s.length = ⟨⟨s⟩⟩ := by rw [extract_l]; simp
  rw [this, encs_bytes]
  apply Array.ext'; simp
end Go.PW
namespace Go.PW
open Go
def dch (n : Nat) : UInt8 := if n < 10 then UInt8.ofNat (48 + n) else UInt8.ofNat (87 + n)
def digs (b : Nat) : Nat → Nat → Str
  | 0, _ => []
  | k + 1, n => digs b k (n / b) ++ [dch (n % b)]
def ndg (b : Nat) : Nat → Nat → Nat
  | 0, _ => 1
  | f + 1, n => if n < b then 1 else ndg b f (n / b) + 1
def fmtN (b n : Nat) : Str := digs b (ndg b 64 n) n
theorem digs_length (b : Nat) : ∀ k n, (digs b k n).length = k
  | 0, _ => rfl
  | k + 1, n => by simp [digs, digs_length b k]
theorem digs_add (b j : Nat) : ∀ k n, digs b (j + k) n = digs b j (n / b ^ k) ++ digs b k n
  | 0, n => by simp [digs]
  | k + 1, n => by
    show digs b (j + k) (n / b) ++ [dch (n % b)] = _
    rw [digs_add b j k (n / b), Nat.div_div_eq_div_mul, ← Nat.pow_succ']
    simp [digs]
theorem digs_head (b k n : Nat) : digs b (k + 1) n = dch (n / b ^ k % b) :: digs b k n := by
  rw [Nat.add_comm, digs_add]; rfl
theorem ndg_of {b : Nat} (hb : 2 ≤ b) : ∀ {f k n : Nat}, 1 ≤ k → k ≤ f + 1 → n < b ^ k → (k = 1 ∨ b ^ (k - 1) ≤ n) → ndg b f n = k
  | 0, k, n, h1, h2, _, _ => by simp [ndg]; omega
  | f + 1, k, n, h1, h2, h3, h4 => by
    unfold ndg
    by_cases hn : n < b
    · rw [if_pos hn]
      rcases h4 with h4 | h4
      · exact h4.symm
      · by_cases hk : k = 1
        · exact hk.symm
        · have : b ^ 1 ≤ b ^ (k - 1) := Nat.pow_le_pow_right (by omega) (by omega)
          rw [Nat.pow_one] at this; omega
    · rw [if_neg hn]
      obtain ⟨j, rfl⟩ : ∃ j, k = j + 1 := ⟨k - 1, by omega⟩
      have hj : 1 ≤ j := by
        rcases Nat.eq_zero_or_pos j with h | h
        · subst h; simp at h3; omega
        · exact h
      have h5 : n / b < b ^ j := by
        rw [Nat.div_lt_iff_lt_mul (by omega)]; rw [Nat.pow_succ] at h3; exact h3
      have h6 : j = 1 ∨ b ^ (j - 1) ≤ n / b := by
        rcases h4 with h4 | h4
        · exact .inl (by omega)
        · by_cases hj1 : j = 1
          · exact .inl hj1
          · refine .inr ?_
            rw [Nat.le_div_iff_mul_le (by omega), ← Nat.pow_succ]
            have : (j - 1).succ = j + 1 - 1 := by omega
            rw [this]; exact h4
      rw [ndg_of hb (k := j) hj (by omega) h5 h6]
theorem fmtN_of {b k n : Nat} (hb : 2 ≤ b) (h1 : 1 ≤ k) (h2 : k ≤ 65) (h3 : n < b ^ k) (h4 : k = 1 ∨ b ^ (k - 1) ≤ n) : fmtN b n = digs b k n := by
  unfold fmtN; rw [ndg_of hb h1 h2 h3 h4]
theorem ndg_pos (b : Nat) : ∀ f n, 1 ≤ ndg b f n
  | 0, _ => Nat.le_refl _
  | f + 1, n => by unfold ndg; split <;> omega
theorem ndg_le (b : Nat) : ∀ f n, ndg b f n ≤ f + 1
  | 0, _ => Nat.le_refl _
  | f + 1, n => by unfold ndg; have := ndg_le b f (n / b); split <;> omega
theorem fmtN_length (b n : Nat) : 1 ≤ (fmtN b n).length ∧ (fmtN b n).length ≤ 65 := by
  unfold fmtN; rw [digs_length]; exact ⟨ndg_pos _ _ _, ndg_le _ _ _⟩
def digitsL : Str := [48, 49, 50, 51, 52, 53, 54, 55, 56, 57, 97, 98, 99, 100, 101, 102, 103, 104, 105, 106, 107, 108, 109, 110, 111, 112, 113, 114, 115, 116, 117, 118, 119, 120, 121, 122]
def hexL : Str := [48, 49, 50, 51, 52, 53, 54, 55, 56, 57, 97, 98, 99, 100, 101, 102]
def smallsL : Str := [48, 48, 48, 49, 48, 50, 48, 51, 48, 52, 48, 53, 48, 54, 48, 55, 48, 56, 48, 57, 49, 48, 49, 49, 49, 50, 49, 51, 49, 52, 49, 53, 49, 54, 49, 55, 49, 56, 49, 57, 50, 48, 50, 49, 50, 50, 50, 51, 50, 52, 50, 53, 50, 54, 50, 55, 50, 56, 50, 57, 51, 48, 51, 49, 51, 50, 51, 51, 51, 52, 51, 53, 51, 54, 51, 55, 51, 56, 51, 57, 52, 48, 52, 49, 52, 50, 52, 51, 52, 52, 52, 53, 52, 54, 52, 55, 52, 56, 52, 57, 53, 48, 53, 49, 53, 50, 53, 51, 53, 52, 53, 53, 53, 54, 53, 55, 53, 56, 53, 57, 54, 48, 54, 49, 54, 50, 54, 51, 54, 52, 54, 53, 54, 54, 54, 55, 54, 56, 54, 57, 55, 48, 55, 49, 55, 50, 55, 51, 55, 52, 55, 53, 55, 54, 55, 55, 55, 56, 55, 57, 56, 48, 56, 49, 56, 50, 56, 51, 56, 52, 56, 53, 56, 54, 56, 55, 56, 56, 56, 57, 57, 48, 57, 49, 57, 50, 57, 51, 57, 52, 57, 53, 57, 54, 57, 55, 57, 56, 57, 57]
theorem digitsL_at : ∀ k, k < 36 → digitsL.getD k 0 = dch k := by decide
theorem smallsL_at : ∀ k, k < 100 → smallsL.getD (2 * k) 0 = dch (k / 10) ∧ smallsL.getD (2 * k + 1) 0 = dch (k % 10) := by decide +kernel
theorem smallsL_length : smallsL.length = 200 := by decide +kernel
theorem small_one : ∀ k, k < 10 → (digitsL.drop k).take 1 = fmtN 10 k := by decide
theorem small_two : ∀ k, k < 100 → 10 ≤ k → (smallsL.drop (2 * k)).take 2 = fmtN 10 k := by decide +kernel
end Go.PW
namespace Go.PW
open Enc (enc val)
open Go
section
variable {cx : Cx} {md : Md} {ops : Array Oper} {Q : Exit → Act → World → Prop} {rest : List (Oper × Nat)} {kq : Nat} {base : Nat → Value} {L : List (Nat × Value)} {own ro : List Seg}
variable {q : Nat} {d : Nat} {ty : TypeId} {pos : String} {aft : Array Edge} {x y z : Operand} {xt yt : TypeId} {k k2 : IntKind}
theorem negC {a : Int} (r : Int) (hx : ev cx.n base L x = .int k a) (hr : k.wrap (0 - a) = r) (h : JG cx md ops Q rest base ((d, .int k r) :: L) own ro) : JG cx md ops Q ((⟨some d, .unOp .neg xt x, ty, pos, aft, none⟩, q) :: rest) base L own ro :=
  negW hx (by rw [hr]; exact h)
theorem remn {a b : Nat} (hx : ev cx.n base L x = .int k (a : Int)) (hy : ev cx.n base L y = .int k (b : Int)) (hb : b ≠ 0)
    (h : JG cx md ops Q rest base ((d, .int k ((a % b : Nat) : Int)) :: L) own ro) : JG cx md ops Q ((⟨some d, .binOp .rem xt x y yt, ty, pos, aft, none⟩, q) :: rest) base L own ro :=
  remi hx hy (by omega) (by rw [← Int.ofNat_tmod]; exact h)
theorem lenC {s : Str} (n : Int) (hx : ev cx.n base L x = strV s) (hu : cx.P.underlying xt = some .string) (hn : (s.length : Int) = n)
    (h : JG cx md ops Q rest base ((d, .int .i64 n) :: L) own ro) : JG cx md ops Q ((⟨some d, .call ⟨.builtin .len, #[x], #[xt]⟩, ty, pos, aft, none⟩, q) :: rest) base L own ro :=
  lenT hx hu (by rw [hn]; exact h)
theorem shrI {a i m : Int} (n : Nat) (hx : ev cx.n base L x = .int .i64 a) (hy : ev cx.n base L y = .int k2 i) (hn : i = (n : Int)) (hm : (2 : Int) ^ (min n 64) = m) (h : JG cx md ops Q rest base ((d, .int .i64 (a / m)) :: L) own ro) : JG cx md ops Q ((⟨some d, .binOp .shr xt x y yt, ty, pos, aft, none⟩, q) :: rest) base L own ro :=
  bopI _ hx hy (by
    subst hn
    show Op.shift .shr .i64 _ k2 _ = _
    rw [shift_shr_any _ _ _ _ (by omega), Int.toNat_natCast, show IntKind.i64.bits = 64 from rfl, hm]) h
theorem cvBO {o : Ow} {ys : Str} {E len : Nat} {src dst e : TypeId} (j : Nat) (hok : o.ok ys) (hx : ev cx.n base L x = .slice o.adr len o.cap) (hl : len = ys.length) (hs : (Src md q own ro)[j]? = some (o.seg ys E)) (hsrc : cx.P.underlying src = some (.slice e)) (hd : cx.P.underlying dst = some .string) (he : cx.P.underlying e = some (.int .u8))
    (h : JG cx md ops Q rest base ((d, strV ys) :: L) own ro) : JG cx md ops Q ((⟨some d, .convert src dst x, ty, pos, aft, none⟩, q) :: rest) base L own ro := by
  cases hn : o.nl with
  | true =>
    obtain ⟨rfl, h2⟩ := hok.nl hn
    have ha : o.adr = none := by simp [Ow.adr, hn]
    rw [ha] at hx
    exact cvBS (s := ⟨true, 0, 0, o.cap, none⟩) j ⟨fun _ => rfl, Nat.zero_le _⟩ hx hl (by rw [hs]; simp [Ow.seg, Vs.seg, hn]) hsrc hd he h
  | false =>
    have ha : o.adr = some ⟨o.b, 0, none⟩ := by simp [Ow.adr, hn]
    rw [ha] at hx
    exact cvC (pre := []) (post := o.sp) j hx hl (by rw [hs]; simp only [Ow.seg, hn]; rfl) rfl rfl hsrc hd he h
end
theorem ow_cap {o : Ow} {ys : Str} (h : o.ok ys) (hl : 0 < ys.length) : o.cap ≠ 0 ∨ o.adr = none := .inl (by have := h.le; omega)
end Go.PW
namespace Go.PW
open Enc (enc val)
open Go
def blen (n : Nat) : Nat := if n = 0 then 0 else Nat.log2 n + 1
def len8L : Str := [0, 1, 2, 2, 3, 3, 3, 3, 4, 4, 4, 4, 4, 4, 4, 4, 5, 5, 5, 5, 5, 5, 5, 5, 5, 5, 5, 5, 5, 5, 5, 5, 6, 6, 6, 6, 6, 6, 6, 6, 6, 6, 6, 6, 6, 6, 6, 6, 6, 6, 6, 6, 6, 6, 6, 6, 6, 6, 6, 6, 6, 6, 6, 6, 7, 7, 7, 7, 7, 7, 7, 7, 7, 7, 7, 7, 7, 7, 7, 7, 7, 7, 7, 7, 7, 7, 7, 7, 7, 7, 7, 7, 7, 7, 7, 7, 7, 7, 7, 7, 7, 7, 7, 7, 7, 7, 7, 7, 7, 7, 7, 7, 7, 7, 7, 7, 7, 7, 7, 7, 7, 7, 7, 7, 7, 7, 7, 7, 8, 8, 8, 8, 8, 8, 8, 8, 8, 8, 8, 8, 8, 8, 8, 8, 8, 8, 8, 8, 8, 8, 8, 8, 8, 8, 8, 8, 8, 8, 8, 8, 8, 8, 8, 8, 8, 8, 8, 8, 8, 8, 8, 8, 8, 8, 8, 8, 8, 8, 8, 8, 8, 8, 8, 8, 8, 8, 8, 8, 8, 8, 8, 8, 8, 8, 8, 8, 8, 8, 8, 8, 8, 8, 8, 8, 8, 8, 8, 8, 8, 8, 8, 8, 8, 8, 8, 8, 8, 8, 8, 8, 8, 8, 8, 8, 8, 8, 8, 8, 8, 8, 8, 8, 8, 8, 8, 8, 8, 8, 8, 8, 8, 8, 8, 8, 8, 8, 8, 8, 8, 8, 8, 8, 8, 8, 8, 8]
def pow10L : List UInt64 := (List.range 20).map fun k => UInt64.ofNat (10 ^ k)
def dbL : Str := [0, 1, 56, 2, 57, 49, 28, 3, 61, 58, 42, 50, 38, 29, 17, 4, 62, 47, 59, 36, 45, 43, 51, 22, 53, 39, 33, 30, 24, 18, 12, 5, 63, 55, 48, 27, 60, 41, 37, 16, 46, 35, 44, 21, 52, 32, 23, 11, 54, 26, 40, 15, 34, 20, 31, 10, 25, 14, 19, 9, 13, 8, 7, 6]
def tPow10 (b : Nat) : Seg := [(b, .view 0 (encs pow10L))]
def tDb64 (b : Nat) : Seg := [(b, .view 0 (encs dbL))]
theorem blen_bd (n : Nat) : n < 2 ^ blen n ∧ (n = 0 ∨ 2 ^ (blen n - 1) ≤ n) := by
  unfold blen
  by_cases h : n = 0
  · subst h; simp
  · rw [if_neg h]
    exact ⟨Nat.lt_log2_self, .inr (by rw [Nat.add_sub_cancel]; exact Nat.log2_self_le h)⟩
theorem blen_of {n k : Nat} (h1 : n < 2 ^ k) (h2 : k = 0 ∨ 2 ^ (k - 1) ≤ n) : blen n = k := by
  have hb := blen_bd n
  rcases Nat.lt_trichotomy (blen n) k with h | h | h
  · rcases h2 with h2 | h2
    · omega
    · have : 2 ^ blen n ≤ 2 ^ (k - 1) := Nat.pow_le_pow_right (by omega) (by omega)
      omega
  · exact h
  · rcases hb.2 with h3 | h3
    · subst h3; simp [blen] at h
    · have : 2 ^ k ≤ 2 ^ (blen n - 1) := Nat.pow_le_pow_right (by omega) (by omega)
      omega
theorem blen_up (n s : Nat) (h : 1 ≤ n / 2 ^ s) : blen n = s + blen (n / 2 ^ s) := by
  have hb := blen_bd (n / 2 ^ s)
  refine blen_of ?_ (.inr ?_)
  · rw [Nat.pow_add]
    have h1 := hb.1
    rw [Nat.div_lt_iff_lt_mul (Nat.two_pow_pos s)] at h1
    rw [Nat.mul_comm]; exact h1
  · rcases hb.2 with h3 | h3
    · omega
    · have hp : 1 ≤ blen (n / 2 ^ s) := by
        unfold blen; rw [if_neg (by omega)]; omega
      rw [show s + blen (n / 2 ^ s) - 1 = s + (blen (n / 2 ^ s) - 1) by omega, Nat.pow_add]
      rw [Nat.le_div_iff_mul_le (Nat.two_pow_pos s)] at h3
      rw [Nat.mul_comm]; exact h3
theorem len8_at : ∀ k, k < 256 → (len8L.getD k 0).toNat = blen k := by decide +kernel
theorem len8_length : len8L.length = 256 := by decide +kernel
theorem blen_le {n : Nat} (h : n < 18446744073709551616) : blen n ≤ 64 := by
  rcases (blen_bd n).2 with h2 | h2
  · subst h2; simp [blen]
  · refine Nat.le_of_not_lt fun h3 => ?_
    have : 2 ^ 64 ≤ 2 ^ (blen n - 1) := Nat.pow_le_pow_right (by omega) (by omega)
    omega
theorem blen_pos {n : Nat} (h : 1 ≤ n) : 1 ≤ blen n := by unfold blen; rw [if_neg (by omega)]; omega
theorem pow10_at : ∀ k, k < 20 → (pow10L.getD k 0).toNat = 10 ^ k := by decide +kernel
theorem nd_tab : ∀ l, l < 65 → 1 ≤ l → 2 ^ l ≤ 10 ^ (l * 78913 / 262144 + 1) ∧ (l * 78913 / 262144 = 0 ∨ 10 ^ (l * 78913 / 262144 - 1) ≤ 2 ^ (l - 1)) ∧ l * 78913 / 262144 < 20 := by decide +kernel
theorem nd_law {n : Nat} (h1 : 1 ≤ n) (h2 : n < 18446744073709551616) : (blen n * 78913 / 262144) + (if 10 ^ (blen n * 78913 / 262144) ≤ n then 1 else 0) = ndg 10 64 n := by
  have hl := blen_le h2
  have hp := blen_pos h1
  have hb := blen_bd n
  obtain ⟨t1, t2, t3⟩ := nd_tab (blen n) (by omega) hp
  generalize hP : blen n * 78913 / 262144 = p at *
  symm
  by_cases h : 10 ^ p ≤ n
  · rw [if_pos h]
    exact ndg_of (by omega) (by omega) (by omega) (by omega) (.inr (by rw [Nat.add_sub_cancel]; exact h))
  · rw [if_neg h, Nat.add_zero]
    have hp0 : p ≠ 0 := fun e => by subst e; simp at h; omega
    refine ndg_of (by omega) (by omega) (by omega) (by omega) (.inr ?_)
    rcases t2 with t2 | t2
    · omega
    · rcases hb.2 with h3 | h3 <;> omega
theorem len_p {n m s : Nat} (hm : m % 256 = n / 2 ^ s) (h : s = 0 ∨ 1 ≤ n / 2 ^ s) : (s : Int) + ((blen (m % 256) : Nat) : Int) = ((blen n : Nat) : Int) := by
  rw [hm]
  rcases h with rfl | h
  · simp
  · rw [blen_up n s h]; omega
theorem nd_int {d : UInt64} (hd : 1 ≤ d.toNat) : ((blen d.toNat * 78913 / 262144 : Nat) : Int) + (if decide (((List.getD pow10L (blen d.toNat * 78913 / 262144) 0).toNat : Int) ≤ (d.toNat : Int)) = true then (1 : Int) else 0) = ((ndg 10 64 d.toNat : Nat) : Int) := by
  have hx := d.toNat_lt
  have h1 := nd_law hd (by omega)
  have hl := blen_le (n := d.toNat) (by omega)
  have hp := blen_pos hd
  obtain ⟨_, _, t3⟩ := nd_tab (blen d.toNat) (by omega) hp
  rw [pow10_at _ t3, ← h1]
  by_cases h : 10 ^ (blen d.toNat * 78913 / 262144) ≤ d.toNat
  · rw [if_pos h, if_pos (by rw [decide_eq_true_eq]; exact_mod_cast h)]; omega
  · rw [if_neg h, if_neg (by rw [decide_eq_true_eq]; exact_mod_cast h)]; omega
structure FB (N u0 nd : Nat) (ys : Str) (u : Nat) : Prop where
  le : nd ≤ N
  len : ys.length = N
  eq : digs 10 N u0 = digs 10 nd u ++ ys.drop nd
  lt : u < 10 ^ nd
theorem FB.begin {N u0 : Nat} {ys : Str} (hl : ys.length = N) (h : u0 < 10 ^ N) : FB N u0 N ys u0 := ⟨Nat.le_refl _, hl, by rw [List.drop_of_length_le (by omega)]; simp, h⟩
theorem FB.fin {N u0 u : Nat} {ys : Str} (h : FB N u0 0 ys u) : ys = digs 10 N u0 := by rw [h.eq]; simp [digs]
theorem FB.fin0 {N u0 nd u : Nat} {ys : Str} (h : FB N u0 nd ys u) (h0 : nd = 0) : ys = digs 10 N u0 := by subst h0; exact h.fin
theorem set_drop {ys : Str} {k : Nat} {v : UInt8} (h : k < ys.length) : (ys.set k v).drop k = v :: ys.drop (k + 1) := by
  rw [List.drop_eq_getElem_cons (by simpa using h), List.drop_set_of_lt (by omega)]; simp
theorem FB.one {N u0 nd u : Nat} {ys : Str} {c : UInt8} (h : FB N u0 nd ys u) (h1 : 1 ≤ nd) (hc : c = dch (u % 10)) : FB N u0 (nd - 1) (ys.set (nd - 1) c) (u / 10) := by
  obtain ⟨k, rfl⟩ : ∃ k, nd = k + 1 := ⟨nd - 1, by omega⟩
  rw [Nat.add_sub_cancel]
  refine ⟨by have := h.le; omega, by simpa using h.len, ?_, ?_⟩
  · rw [h.eq, set_drop (by have := h.le; have := h.len; omega), hc]
    simp [digs]
  · have := h.lt; rw [Nat.pow_succ] at this; omega
theorem FB.two {N u0 nd u : Nat} {ys : Str} {c d : UInt8} (h : FB N u0 nd ys u) (h1 : 2 ≤ nd) (hc : c = dch (u % 10)) (hd : d = dch (u / 10 % 10)) : FB N u0 (nd - 2) ((ys.set (nd - 1) c).set (nd - 2) d) (u / 100) := by
  have h2 := (h.one (by omega) hc).one (c := d) (by omega) hd
  rw [Nat.div_div_eq_div_mul] at h2
  exact h2
theorem FB.four {N u0 nd u : Nat} {ys : Str} {c0 c1 c2 c3 : UInt8} (h : FB N u0 nd ys u) (h1 : 4 ≤ nd) (e0 : c0 = dch (u % 10)) (e1 : c1 = dch (u / 10 % 10)) (e2 : c2 = dch (u / 100 % 10)) (e3 : c3 = dch (u / 1000 % 10)) :
    FB N u0 (nd - 4) ((((ys.set (nd - 1) c0).set (nd - 2) c1).set (nd - 3) c2).set (nd - 4) c3) (u / 10000) := by
  have h2 := (h.two (by omega) e0 e1).two (c := c2) (d := c3) (by omega) e2 (by rw [Nat.div_div_eq_div_mul]; exact e3)
  rw [Nat.div_div_eq_div_mul] at h2
  exact h2
theorem FB.eight {N u0 nd u : Nat} {ys : Str} {c0 c1 c2 c3 c4 c5 c6 c7 : UInt8} (h : FB N u0 nd ys u) (h1 : 8 ≤ nd) (e0 : c0 = dch (u % 10)) (e1 : c1 = dch (u / 10 % 10)) (e2 : c2 = dch (u / 100 % 10)) (e3 : c3 = dch (u / 1000 % 10))
    (e4 : c4 = dch (u / 10000 % 10)) (e5 : c5 = dch (u / 100000 % 10)) (e6 : c6 = dch (u / 1000000 % 10)) (e7 : c7 = dch (u / 10000000 % 10)) :
    FB N u0 (nd - 8) ((((((((ys.set (nd - 1) c0).set (nd - 2) c1).set (nd - 3) c2).set (nd - 4) c3).set (nd - 5) c4).set (nd - 6) c5).set (nd - 7) c6).set (nd - 8) c7) (u / 100000000) := by
  have h2 := (h.four (by omega) e0 e1 e2 e3).four (c0 := c4) (c1 := c5) (c2 := c6) (c3 := c7) (by omega) e4 (by rw [Nat.div_div_eq_div_mul]; exact e5) (by rw [Nat.div_div_eq_div_mul]; exact e6) (by rw [Nat.div_div_eq_div_mul]; exact e7)
  rw [Nat.div_div_eq_div_mul] at h2
  exact h2
theorem sml {x k : Nat} (h : x = 2 * k) (hk : k < 100) : smallsL.getD x 0 = dch (k / 10) := by subst h; exact (smallsL_at k hk).1
theorem smh {x k : Nat} (h : x = 2 * k + 1) (hk : k < 100) : smallsL.getD x 0 = dch (k % 10) := by subst h; exact (smallsL_at k hk).2
theorem sml2 {x k u : Nat} (h : x = 2 * k) (hk : k < 100) (hu : k / 10 = u) : smallsL.getD x 0 = dch u := by subst hu; exact sml h hk
theorem smh2 {x k u : Nat} (h : x = 2 * k + 1) (hk : k < 100) (hu : k % 10 = u) : smallsL.getD x 0 = dch u := by subst hu; exact smh h hk
theorem fb_x {w : UInt64} {nd : Nat} (h : w.toNat < 10 ^ nd) (hn : nd < 8) : (UInt32.ofNat w.toNat).toNat = w.toNat := by
  have : 10 ^ nd ≤ 10 ^ 7 := Nat.pow_le_pow_right (by omega) (by omega)
  rw [UInt32.toNat_ofNat']; omega
theorem dch_small {x : UInt32} {n : Nat} (h : x.toNat = 48 + n) (hn : n < 10) : UInt8.ofNat x.toNat = dch (n % 10) := by
  rw [h, Nat.mod_eq_of_lt hn]; unfold dch; rw [if_pos hn]
structure FX (u0 k : Nat) (a : Arr UInt8 65) (u : Nat) : Prop where
  le : k ≤ 15
  eq : a.l.drop (65 - k) = digs 16 k u0
  u : u = u0 / 16 ^ k
  ge : k = 0 ∨ 16 ^ k ≤ u0
theorem FX.begin (u0 : Nat) (a : Arr UInt8 65) : FX u0 0 a u0 := ⟨by omega, by rw [List.drop_of_length_le (by rw [a.h]; omega)]; rfl, by simp, .inl rfl⟩
theorem FX.put {u0 k : Nat} {a : Arr UInt8 65} {u : Nat} {c : UInt8} (h : FX u0 k a u) (hc : c = dch (u % 16)) : (a.set (64 - k) c).l.drop (64 - k) = digs 16 (k + 1) u0 := by
  have := h.le
  show (a.l.set (64 - k) c).drop (64 - k) = _
  rw [set_drop (by rw [a.h]; omega), show 64 - k + 1 = 65 - k by omega, h.eq, digs_head, hc, h.u]
theorem FX.step {u0 k : Nat} {a : Arr UInt8 65} {u : Nat} {c : UInt8} (h : FX u0 k a u) (h0 : u0 < 18446744073709551616) (hu : 16 ≤ u) (hc : c = dch (u % 16)) : FX u0 (k + 1) (a.set (64 - k) c) (u / 16) := by
  have hge : 16 ^ (k + 1) ≤ u0 := by
    have h1 := h.u
    rw [h1, Nat.le_div_iff_mul_le (Nat.pow_pos (by omega))] at hu
    rw [Nat.pow_succ, Nat.mul_comm]; exact hu
  have hle : k + 1 ≤ 15 := Nat.le_of_not_lt fun hn => by
    have : 16 ^ 16 ≤ 16 ^ (k + 1) := Nat.pow_le_pow_right (by omega) hn
    omega
  exact ⟨hle, by rw [show 65 - (k + 1) = 64 - k by omega]; exact h.put hc, by rw [h.u, Nat.div_div_eq_div_mul, ← Nat.pow_succ], .inr hge⟩
theorem FX.fin {u0 k : Nat} {a : Arr UInt8 65} {u : Nat} {c : UInt8} (h : FX u0 k a u) (hu : u < 16) (hc : c = dch u) : List.take (65 - (64 - k)) (List.drop (64 - k) (a.set (64 - k) c).l) = fmtN 16 u0 := by
  have hle := h.le
  rw [h.put (by rw [hc, Nat.mod_eq_of_lt hu]), List.take_of_length_le (by rw [digs_length]; omega)]
  symm
  refine fmtN_of (by omega) (by omega) (by omega) ?_ ?_
  · have h1 := h.u
    rw [h1, Nat.div_lt_iff_lt_mul (Nat.pow_pos (by omega))] at hu
    rw [Nat.pow_succ, Nat.mul_comm]; exact hu
  · rcases h.ge with h2 | h2
    · exact .inl (by omega)
    · exact .inr (by rw [Nat.add_sub_cancel]; exact h2)
theorem fx_and (w : UInt64) : (w &&& 15).toNat = w.toNat % 16 := by
  rw [UInt64.toNat_and, show (15 : UInt64).toNat = 2 ^ 4 - 1 from rfl, Nat.and_two_pow_sub_one_eq_mod]
theorem ndg_lt {b : Nat} (hb : 2 ≤ b) : ∀ f n, n < b ^ (f + 1) → n < b ^ ndg b f n
  | 0, n, h => by simpa [ndg] using h
  | f + 1, n, h => by
    unfold ndg
    by_cases hn : n < b
    · rw [if_pos hn, Nat.pow_one]; exact hn
    · rw [if_neg hn, Nat.pow_succ, ← Nat.div_lt_iff_lt_mul (by omega)]
      exact ndg_lt hb f (n / b) (by rw [Nat.div_lt_iff_lt_mul (by omega), ← Nat.pow_succ]; exact h)
theorem nd_lt {u : UInt64} : u.toNat < 10 ^ ndg 10 64 u.toNat := ndg_lt (by omega) 64 _ (Nat.lt_of_lt_of_le u.toNat_lt (by decide))
theorem nd_20 {u : UInt64} (h : 1 ≤ u.toNat) : ndg 10 64 u.toNat ≤ 20 := by
  have hx := u.toNat_lt
  rw [← nd_law h (by omega)]
  have hl := blen_le (n := u.toNat) (by omega)
  obtain ⟨_, _, t3⟩ := nd_tab (blen u.toNat) (by omega) (blen_pos h)
  split <;> omega
end Go.PW
namespace Go.Proofs.YtakbbpahfclgnaaGreatDoor
open Go Go.Proofs Go.PW
open Go.PW.Enc (enc val)
theorem ty72 : Ty Tryz.prog 72 1 false := ⟨by kernel_rfl, by kernel_rfl⟩
theorem small_ct (n : Nat) (hn : n < 100) : Ct Tryz.prog 151 [.int .i64 (n : Int)] [] [] (fun v o r => v = strV (fmtN 10 n) ∧ o = [] ∧ r = []) := by
 refine ct_enter Tryz.func151 rfl Tryz.ntmps151 (by kernel_rfl) rfl fun w0 => ?_
 refine csr <| ags rfl <| jt <| c_seq <| csr <| mvi rfl <| cmp _ rfl rfl rfl <| jt <| c_cond rfl (fun h1 => ?_) (fun h1 => ?_)
 ·replace h1 := of_decide_eq_true h1
  refine csr <| mvi rfl <| mvi rfl <| addi rfl rfl rfl (by omega) <| cutT (s := digitsL) n (n + 1) (by kernel_rfl) uy9 ⟨_, rfl⟩ ⟨_, congrArg (Value.int _) (by omega)⟩ (by omega) (by simp [digitsL]; omega) (List.take ((n + 1) - n) (List.drop n digitsL)) rfl <| ags rfl <| jt <| c_ret ?_
  exact j_z (own0 := []) (ro0 := []) (.inl rfl) rfl (hr1 Tryz.results151 (rvt (v := (.string _)) rfl)) rfl (⟨by rw [← small_one n (by omega)]; simp, rfl, rfl⟩)
 ·replace h1 := of_decide_eq_false h1
  refine c_skip <| e_then <| csr <| mvi rfl <| muli rfl rfl rfl (by omega) <| mvi rfl <| muli rfl rfl rfl (by omega) <| addi rfl rfl rfl (by omega) <| cutT (s := smallsL) (2 * n) (2 * n + 2) (by kernel_rfl) uy9 ⟨_, congrArg (Value.int _) (by omega)⟩ ⟨_, congrArg (Value.int _) (by omega)⟩ (by omega) (by rw [smallsL_length]; omega) (List.take ((2 * n + 2) - (2 * n)) (List.drop (2 * n) smallsL)) rfl <| ags rfl <| jt <| c_ret ?_
  exact j_z (own0 := []) (ro0 := []) (.inl rfl) rfl (hr1 Tryz.results151 (rvt (v := (.string _)) rfl)) rfl (⟨by rw [← small_two n hn (by omega)]; simp, rfl, rfl⟩)
theorem log10Pow2_ct (n : Nat) (hn : n ≤ 64) : Ct Tryz.prog 163 [.int .i64 (n : Int)] [] [] (fun v o r => v = .int .i64 ((n * 78913 / 262144 : Nat) : Int) ∧ o = [] ∧ r = []) := by
 refine ct_enter Tryz.func163 rfl Tryz.ntmps163 (by kernel_rfl) rfl fun w0 => ?_
 refine csr <| agi rfl <| jsr <| mvi rfl <| muli rfl rfl rfl (by omega) <| shrI (m := 262144) 18 rfl rfl rfl (by decide) <| agi rfl <| jt <| c_ret ?_
 exact j_z (own0 := []) (ro0 := []) (.inl rfl) rfl (hr1 Tryz.results163 (rvt (v := (.int _ _)) rfl)) rfl (⟨congrArg (Value.int _) (by omega), rfl, rfl⟩)
theorem bool2_ct (b : Bool) : Ct Tryz.prog 165 [.bool b] [] [] (fun v o r => v = .int .i64 (if b = true then 1 else 0) ∧ o = [] ∧ r = []) := by
 refine ct_enter Tryz.func165 rfl Tryz.ntmps165 (by kernel_rfl) rfl fun w0 => ?_
 refine csr <| agi rfl <| jt <| c_seq <| csr <| mvb rfl <| jt <| c_cond rfl (fun h1 => ?_) (fun h1 => ?_)
 ·refine csr <| agi rfl <| jt <| c_ret ?_
  exact j_z (own0 := []) (ro0 := []) (.inl rfl) rfl (hr1 Tryz.results165 (rvt (v := (.int _ _)) rfl)) rfl (⟨by rw [h1]; rfl, rfl, rfl⟩)
 ·refine c_skip <| e_then <| csr <| agi rfl <| jt <| c_ret ?_
  exact j_z (own0 := []) (ro0 := []) (.inl rfl) rfl (hr1 Tryz.results165 (rvt (v := (.int _ _)) rfl)) rfl (⟨by rw [h1]; rfl, rfl, rfl⟩)
theorem Len64_ct (x : UInt64) : Ct Tryz.prog 164 [.int .u64 (x.toNat : Int)] [] [] (fun v o r => v = .int .i64 (blen x.toNat : Int) ∧ o = [] ∧ r = []) := by
 have HX := x.toNat_lt
 refine ct_enter Tryz.func164 rfl Tryz.ntmps164 (by kernel_rfl) rfl fun w0 => ?_
 refine csr <| agi rfl <| jt <| c_seq <| csr <| mvi rfl <| cmp _ rfl rfl rfl <| jt <| c_cond rfl (fun h1 => ?_) (fun h1 => ?_)
 ·replace h1 := of_decide_eq_true h1
  refine csr <| mvi rfl <| shrRU64 (a := x) 32 rfl rfl rfl <| agi rfl <| jr <| agi rfl <| jt <| c_seq <| csr <| mvi rfl <| cmp _ rfl rfl rfl <| jt <| c_cond rfl (fun h2 => ?_) (fun h2 => ?_)
  ·replace h2 := of_decide_eq_true h2
   refine csr <| mvi rfl <| shrRU64 (a := (shrU64 x 32)) 16 rfl rfl rfl <| agi rfl <| jr <| mvi rfl <| bopI (.int .i64 48) rfl rfl (by kernel_rfl) <| agi rfl <| jt <| c_seq <| csr <| mvi rfl <| cmp _ rfl rfl rfl <| jt <| c_cond rfl (fun h3 => ?_) (fun h3 => ?_)
   ·replace h3 := of_decide_eq_true h3
    refine csr <| mvi rfl <| shrRU64 (a := (shrU64 (shrU64 x 32) 16)) 8 rfl rfl rfl <| agi rfl <| jr <| mvi rfl <| bopI (.int .i64 56) rfl rfl (by kernel_rfl) <| agi rfl <| jsr <| mvi rfl <| mvi rfl <| cvNU8 (n := (shrU64 (shrU64 (shrU64 x 32) 16) 8).toNat) rfl uy72 uy5 <| idxT (s := len8L) ((UInt8.ofNat ((shrU64 (shrU64 (shrU64 x 32) 16) 8).toNat)).toNat) (by kernel_rfl) rfl uy9 rfl (by rw [len8_length]; exact UInt8.toNat_lt _) ?_
    have H9 := UInt8.toNat_lt (List.getD len8L ((UInt8.ofNat ((shrU64 (shrU64 (shrU64 x 32) 16) 8).toNat)).toNat) 0)
    refine cvI ((List.getD len8L ((UInt8.ofNat ((shrU64 (shrU64 (shrU64 x 32) 16) 8).toNat)).toNat) 0).toNat : Int) rfl uy5 uy3 (wI64 (by have := UInt8.toNat_lt (List.getD len8L ((UInt8.ofNat ((shrU64 (shrU64 (shrU64 x 32) 16) 8).toNat)).toNat) 0); omega)) <| addi rfl rfl rfl (by omega) <| agi rfl <| jt <| c_ret ?_
    exact j_z (own0 := []) (ro0 := []) (.inl rfl) rfl (hr1 Tryz.results164 (rvt (v := (.int _ _)) rfl)) rfl (⟨congrArg (Value.int _) (by rw [len8_at _ (UInt8.toNat_lt _)]; simp only [UInt8.toNat_ofNat', shrU64_toNat, Nat.reducePow] at *; exact len_p (s := 56) (by omega) (by omega)), rfl, rfl⟩)
   ·replace h3 := of_decide_eq_false h3
    refine c_skip <| e_then <| csr <| mvi rfl <| mvi rfl <| cvNU8 (n := (shrU64 (shrU64 x 32) 16).toNat) rfl uy72 uy5 <| idxT (s := len8L) ((UInt8.ofNat ((shrU64 (shrU64 x 32) 16).toNat)).toNat) (by kernel_rfl) rfl uy9 rfl (by rw [len8_length]; exact UInt8.toNat_lt _) ?_
    have H9 := UInt8.toNat_lt (List.getD len8L ((UInt8.ofNat ((shrU64 (shrU64 x 32) 16).toNat)).toNat) 0)
    refine cvI ((List.getD len8L ((UInt8.ofNat ((shrU64 (shrU64 x 32) 16).toNat)).toNat) 0).toNat : Int) rfl uy5 uy3 (wI64 (by have := UInt8.toNat_lt (List.getD len8L ((UInt8.ofNat ((shrU64 (shrU64 x 32) 16).toNat)).toNat) 0); omega)) <| addi rfl rfl rfl (by omega) <| agi rfl <| jt <| c_ret ?_
    exact j_z (own0 := []) (ro0 := []) (.inl rfl) rfl (hr1 Tryz.results164 (rvt (v := (.int _ _)) rfl)) rfl (⟨congrArg (Value.int _) (by rw [len8_at _ (UInt8.toNat_lt _)]; simp only [UInt8.toNat_ofNat', shrU64_toNat, Nat.reducePow] at *; exact len_p (s := 48) (by omega) (by omega)), rfl, rfl⟩)
  ·replace h2 := of_decide_eq_false h2
   refine c_skip <| e_then <| c_seq <| csr <| mvi rfl <| cmp _ rfl rfl rfl <| jt <| c_cond rfl (fun h4 => ?_) (fun h4 => ?_)
   ·replace h4 := of_decide_eq_true h4
    refine csr <| mvi rfl <| shrRU64 (a := (shrU64 x 32)) 8 rfl rfl rfl <| agi rfl <| jr <| mvi rfl <| bopI (.int .i64 40) rfl rfl (by kernel_rfl) <| agi rfl <| jsr <| mvi rfl <| mvi rfl <| cvNU8 (n := (shrU64 (shrU64 x 32) 8).toNat) rfl uy72 uy5 <| idxT (s := len8L) ((UInt8.ofNat ((shrU64 (shrU64 x 32) 8).toNat)).toNat) (by kernel_rfl) rfl uy9 rfl (by rw [len8_length]; exact UInt8.toNat_lt _) ?_
    have H9 := UInt8.toNat_lt (List.getD len8L ((UInt8.ofNat ((shrU64 (shrU64 x 32) 8).toNat)).toNat) 0)
    refine cvI ((List.getD len8L ((UInt8.ofNat ((shrU64 (shrU64 x 32) 8).toNat)).toNat) 0).toNat : Int) rfl uy5 uy3 (wI64 (by have := UInt8.toNat_lt (List.getD len8L ((UInt8.ofNat ((shrU64 (shrU64 x 32) 8).toNat)).toNat) 0); omega)) <| addi rfl rfl rfl (by omega) <| agi rfl <| jt <| c_ret ?_
    exact j_z (own0 := []) (ro0 := []) (.inl rfl) rfl (hr1 Tryz.results164 (rvt (v := (.int _ _)) rfl)) rfl (⟨congrArg (Value.int _) (by rw [len8_at _ (UInt8.toNat_lt _)]; simp only [UInt8.toNat_ofNat', shrU64_toNat, Nat.reducePow] at *; exact len_p (s := 40) (by omega) (by omega)), rfl, rfl⟩)
   ·replace h4 := of_decide_eq_false h4
    refine c_skip <| e_then <| csr <| mvi rfl <| mvi rfl <| cvNU8 (n := (shrU64 x 32).toNat) rfl uy72 uy5 <| idxT (s := len8L) ((UInt8.ofNat ((shrU64 x 32).toNat)).toNat) (by kernel_rfl) rfl uy9 rfl (by rw [len8_length]; exact UInt8.toNat_lt _) ?_
    have H9 := UInt8.toNat_lt (List.getD len8L ((UInt8.ofNat ((shrU64 x 32).toNat)).toNat) 0)
    refine cvI ((List.getD len8L ((UInt8.ofNat ((shrU64 x 32).toNat)).toNat) 0).toNat : Int) rfl uy5 uy3 (wI64 (by have := UInt8.toNat_lt (List.getD len8L ((UInt8.ofNat ((shrU64 x 32).toNat)).toNat) 0); omega)) <| addi rfl rfl rfl (by omega) <| agi rfl <| jt <| c_ret ?_
    exact j_z (own0 := []) (ro0 := []) (.inl rfl) rfl (hr1 Tryz.results164 (rvt (v := (.int _ _)) rfl)) rfl (⟨congrArg (Value.int _) (by rw [len8_at _ (UInt8.toNat_lt _)]; simp only [UInt8.toNat_ofNat', shrU64_toNat, Nat.reducePow] at *; exact len_p (s := 32) (by omega) (by omega)), rfl, rfl⟩)
 ·replace h1 := of_decide_eq_false h1
  refine c_skip <| e_then <| c_seq <| csr <| mvi rfl <| cmp _ rfl rfl rfl <| jt <| c_cond rfl (fun h5 => ?_) (fun h5 => ?_)
  ·replace h5 := of_decide_eq_true h5
   refine csr <| mvi rfl <| shrRU64 (a := x) 16 rfl rfl rfl <| agi rfl <| jr <| mvi rfl <| bopI (.int .i64 16) rfl rfl (by kernel_rfl) <| agi rfl <| jt <| c_seq <| csr <| mvi rfl <| cmp _ rfl rfl rfl <| jt <| c_cond rfl (fun h6 => ?_) (fun h6 => ?_)
   ·replace h6 := of_decide_eq_true h6
    refine csr <| mvi rfl <| shrRU64 (a := (shrU64 x 16)) 8 rfl rfl rfl <| agi rfl <| jr <| mvi rfl <| bopI (.int .i64 24) rfl rfl (by kernel_rfl) <| agi rfl <| jsr <| mvi rfl <| mvi rfl <| cvNU8 (n := (shrU64 (shrU64 x 16) 8).toNat) rfl uy72 uy5 <| idxT (s := len8L) ((UInt8.ofNat ((shrU64 (shrU64 x 16) 8).toNat)).toNat) (by kernel_rfl) rfl uy9 rfl (by rw [len8_length]; exact UInt8.toNat_lt _) ?_
    have H9 := UInt8.toNat_lt (List.getD len8L ((UInt8.ofNat ((shrU64 (shrU64 x 16) 8).toNat)).toNat) 0)
    refine cvI ((List.getD len8L ((UInt8.ofNat ((shrU64 (shrU64 x 16) 8).toNat)).toNat) 0).toNat : Int) rfl uy5 uy3 (wI64 (by have := UInt8.toNat_lt (List.getD len8L ((UInt8.ofNat ((shrU64 (shrU64 x 16) 8).toNat)).toNat) 0); omega)) <| addi rfl rfl rfl (by omega) <| agi rfl <| jt <| c_ret ?_
    exact j_z (own0 := []) (ro0 := []) (.inl rfl) rfl (hr1 Tryz.results164 (rvt (v := (.int _ _)) rfl)) rfl (⟨congrArg (Value.int _) (by rw [len8_at _ (UInt8.toNat_lt _)]; simp only [UInt8.toNat_ofNat', shrU64_toNat, Nat.reducePow] at *; exact len_p (s := 24) (by omega) (by omega)), rfl, rfl⟩)
   ·replace h6 := of_decide_eq_false h6
    refine c_skip <| e_then <| csr <| mvi rfl <| mvi rfl <| cvNU8 (n := (shrU64 x 16).toNat) rfl uy72 uy5 <| idxT (s := len8L) ((UInt8.ofNat ((shrU64 x 16).toNat)).toNat) (by kernel_rfl) rfl uy9 rfl (by rw [len8_length]; exact UInt8.toNat_lt _) ?_
    have H9 := UInt8.toNat_lt (List.getD len8L ((UInt8.ofNat ((shrU64 x 16).toNat)).toNat) 0)
    refine cvI ((List.getD len8L ((UInt8.ofNat ((shrU64 x 16).toNat)).toNat) 0).toNat : Int) rfl uy5 uy3 (wI64 (by have := UInt8.toNat_lt (List.getD len8L ((UInt8.ofNat ((shrU64 x 16).toNat)).toNat) 0); omega)) <| addi rfl rfl rfl (by omega) <| agi rfl <| jt <| c_ret ?_
    exact j_z (own0 := []) (ro0 := []) (.inl rfl) rfl (hr1 Tryz.results164 (rvt (v := (.int _ _)) rfl)) rfl (⟨congrArg (Value.int _) (by rw [len8_at _ (UInt8.toNat_lt _)]; simp only [UInt8.toNat_ofNat', shrU64_toNat, Nat.reducePow] at *; exact len_p (s := 16) (by omega) (by omega)), rfl, rfl⟩)
  ·replace h5 := of_decide_eq_false h5
   refine c_skip <| e_then <| c_seq <| csr <| mvi rfl <| cmp _ rfl rfl rfl <| jt <| c_cond rfl (fun h7 => ?_) (fun h7 => ?_)
   ·replace h7 := of_decide_eq_true h7
    refine csr <| mvi rfl <| shrRU64 (a := x) 8 rfl rfl rfl <| agi rfl <| jr <| mvi rfl <| bopI (.int .i64 8) rfl rfl (by kernel_rfl) <| agi rfl <| jsr <| mvi rfl <| mvi rfl <| cvNU8 (n := (shrU64 x 8).toNat) rfl uy72 uy5 <| idxT (s := len8L) ((UInt8.ofNat ((shrU64 x 8).toNat)).toNat) (by kernel_rfl) rfl uy9 rfl (by rw [len8_length]; exact UInt8.toNat_lt _) ?_
    have H9 := UInt8.toNat_lt (List.getD len8L ((UInt8.ofNat ((shrU64 x 8).toNat)).toNat) 0)
    refine cvI ((List.getD len8L ((UInt8.ofNat ((shrU64 x 8).toNat)).toNat) 0).toNat : Int) rfl uy5 uy3 (wI64 (by have := UInt8.toNat_lt (List.getD len8L ((UInt8.ofNat ((shrU64 x 8).toNat)).toNat) 0); omega)) <| addi rfl rfl rfl (by omega) <| agi rfl <| jt <| c_ret ?_
    exact j_z (own0 := []) (ro0 := []) (.inl rfl) rfl (hr1 Tryz.results164 (rvt (v := (.int _ _)) rfl)) rfl (⟨congrArg (Value.int _) (by rw [len8_at _ (UInt8.toNat_lt _)]; simp only [UInt8.toNat_ofNat', shrU64_toNat, Nat.reducePow] at *; exact len_p (s := 8) (by omega) (by omega)), rfl, rfl⟩)
   ·replace h7 := of_decide_eq_false h7
    refine c_skip <| e_then <| csr <| mvi rfl <| mvi rfl <| cvNU8 (n := x.toNat) rfl uy72 uy5 <| idxT (s := len8L) ((UInt8.ofNat x.toNat).toNat) (by kernel_rfl) rfl uy9 rfl (by rw [len8_length]; exact UInt8.toNat_lt _) ?_
    have H9 := UInt8.toNat_lt (List.getD len8L ((UInt8.ofNat x.toNat).toNat) 0)
    refine cvI ((List.getD len8L ((UInt8.ofNat x.toNat).toNat) 0).toNat : Int) rfl uy5 uy3 (wI64 (by have := UInt8.toNat_lt (List.getD len8L ((UInt8.ofNat x.toNat).toNat) 0); omega)) <| addi rfl rfl rfl (by omega) <| agi rfl <| jt <| c_ret ?_
    exact j_z (own0 := []) (ro0 := []) (.inl rfl) rfl (hr1 Tryz.results164 (rvt (v := (.int _ _)) rfl)) rfl (⟨congrArg (Value.int _) (by rw [len8_at _ (UInt8.toNat_lt _)]; simp only [UInt8.toNat_ofNat', shrU64_toNat, Nat.reducePow] at *; exact len_p (s := 0) (by omega) (by omega)), rfl, rfl⟩)
theorem numDigits_ct (d : UInt64) (hd : 1 ≤ d.toNat) : Ct Tryz.prog 152 [.int .u64 (d.toNat : Int)] [] [tPow10 9] (fun v o r => v = .int .i64 (ndg 10 64 d.toNat : Int) ∧ o = [] ∧ r = []) := by
 have HX := d.toNat_lt
 have HL := blen_le (n := d.toNat) (by omega)
 have HB := blen_pos hd
 refine ct_enter Tryz.func152 rfl Tryz.ntmps152 (by kernel_rfl) rfl fun w0 => ?_
 refine csr <| agi rfl <| jsr <| mvi rfl <| cal (Len64_ct d) [] [] [] rfl rfl rfl (by kernel_rfl) impl_nil rfl ?_; rintro _ _ _ ⟨rfl, rfl, rfl⟩; refine ⟨trivial, ?_⟩
 refine cal (log10Pow2_ct (blen d.toNat) (by omega)) [] [] [] rfl rfl rfl (by kernel_rfl) impl_nil rfl ?_; rintro _ _ _ ⟨rfl, rfl, rfl⟩; refine ⟨trivial, ?_⟩
 refine agi rfl <| jsr <| mvi rfl <| mvi rfl <| mvi rfl <| ixaA (blen d.toNat * 78913 / 262144) rfl rfl uy227 ty72.sz rfl (show (blen d.toNat * 78913 / 262144) < 20 by omega) <| ldvG 0 (blen d.toNat * 78913 / 262144) (List.getD pow10L (blen d.toNat * 78913 / 262144) (0)) rfl rfl rfl (getD_some (show (blen d.toNat * 78913 / 262144) < 20 by omega)) ty72 <| cmp _ rfl rfl rfl <| cal (bool2_ct (decide (((List.getD pow10L (blen d.toNat * 78913 / 262144) (0)).toNat : Int) ≤ (d.toNat : Int)))) [] [] [] rfl rfl rfl (by kernel_rfl) impl_nil rfl ?_; rintro _ _ _ ⟨rfl, rfl, rfl⟩; refine ⟨trivial, ?_⟩
 refine addi rfl rfl rfl (by omega) <| agi rfl <| jt <| c_ret ?_
 exact j_z (own0 := []) (ro0 := [tPow10 9]) (.inl rfl) rfl (hr1 Tryz.results152 (rvt (v := (.int _ _)) rfl)) rfl (⟨congrArg (Value.int _) (nd_int hd), rfl, rfl⟩)
theorem formatBase10_ct (b E cp N : Nat) (pre post : List Value) (ys0 : Str) (u : UInt64) (hN : ys0.length = N) (hN2 : N ≤ 24) (hu : u.toNat < 10 ^ N) : Ct Tryz.prog 153 [.slice (some ⟨b, pre.length, none⟩) ys0.length cp, .int .u64 (u.toNat : Int)] [Gseg b E pre ys0 post] [] (fun v o r => v = .tuple #[] ∧ o = [Gseg b E pre (digs 10 N u.toNat) post] ∧ r = []) := by
 have HU := u.toNat_lt
 refine ct_enter Tryz.func153 rfl Tryz.ntmps153 (by kernel_rfl) rfl fun w0 => ?_
 refine csr <| mvl rfl <| lenS rfl uy93 <| agi rfl <| jt <| c_seq <| c_block <| c_loop (σ := Nat × Str × UInt64) (fun (nd, ys, w) => FB N u.toNat nd ys w.toNat) (fun (nd, ys, w) => nd) (fun (nd, ys, w) => [(4, .int .i64 (nd : Int)), (1, .int .u64 (w.toNat : Int))]) (fun (nd, ys, w) => [Gseg b E pre ys post]) (fun (nd, ys, w) => []) [1, 4, 5, 6, 7, 8, 9, 10, 11, 19, 20, 21, 22, 23, 24, 25, 26, 27, 28, 29, 30, 31, 32, 33, 34, 35, 36, 37, 38, 39, 40, 41, 42, 43, 44, 45, 46, 47, 48, 49, 50, 51, 52, 53, 54, 55, 56, 57, 58, 59, 60, 61, 62, 63, 64, 65, 66, 67, 68, 69, 70, 71, 72, 73, 74, 75, 76, 77, 78, 79, 80, 81, 82, 83, 84, 85, 86, 87, 88, 89, 90, 91, 92, 93, 94, 95] (N, ys0, u) (FB.begin hN hu) ⟨congrArg (Value.int _) (by omega), rfl, trivial⟩ rfl rfl ?_
 rintro ⟨nd, ys, w⟩ g1 hI1
 try dsimp only at hI1 ⊢
 have HLE := hI1.le
 have HLN := hI1.len
 have HW := w.toNat_lt
 refine c_seq <| csr <| mvi rfl <| cmp _ rfl rfl rfl <| jt <| c_cond rfl (fun h1 => ?_) (fun h1 => ?_)
 ·replace h1 := of_decide_eq_true h1
  refine c_skip <| e_then <| c_block <| csr <| mvi rfl <| remU64 (a := w) (b := (100000000 : UInt64)) rfl rfl (by decide) <| cvNU32 (n := (w % (100000000 : UInt64)).toNat) rfl uy72 uy153 ?_
  have N23 : (UInt32.ofNat ((w % (100000000 : UInt64)).toNat)).toNat = w.toNat % 100000000 := by rw [UInt32.toNat_ofNat', UInt64.toNat_mod]; simp only [UInt64.reduceToNat, Nat.reducePow]; omega
  refine agi rfl <| jsr <| mvi rfl <| quoU64 (a := w) (b := (100000000 : UInt64)) rfl rfl (by decide) <| agi rfl <| jsr <| mvi rfl <| quoU32 (a := (UInt32.ofNat ((w % (100000000 : UInt64)).toNat))) (b := (10000 : UInt32)) rfl rfl (by decide) ?_
  have N27 : ((UInt32.ofNat ((w % (100000000 : UInt64)).toNat)) / (10000 : UInt32)).toNat = w.toNat % 100000000 / 10000 := by rw [UInt32.toNat_div, N23]; rfl
  refine mvi rfl <| remU32 (a := (UInt32.ofNat ((w % (100000000 : UInt64)).toNat))) (b := (10000 : UInt32)) rfl rfl (by decide) ?_
  have N29 : ((UInt32.ofNat ((w % (100000000 : UInt64)).toNat)) % (10000 : UInt32)).toNat = w.toNat % 10000 := by rw [UInt32.toNat_mod, N23]; simp only [UInt32.reduceToNat, Nat.reducePow]; omega
  refine agi rfl <| agi rfl <| jsr <| mvi rfl <| quoU32 (a := ((UInt32.ofNat ((w % (100000000 : UInt64)).toNat)) % (10000 : UInt32))) (b := (100 : UInt32)) rfl rfl (by decide) <| mulU32 (a := (((UInt32.ofNat ((w % (100000000 : UInt64)).toNat)) % (10000 : UInt32)) / (100 : UInt32))) (b := (2 : UInt32)) rfl rfl ?_
  have N32 : ((((UInt32.ofNat ((w % (100000000 : UInt64)).toNat)) % (10000 : UInt32)) / (100 : UInt32)) * (2 : UInt32)).toNat = 2 * (w.toNat / 100 % 100) := by rw [UInt32.toNat_mul, UInt32.toNat_div, N29]; simp only [UInt32.reduceToNat, Nat.reducePow]; omega
  refine mvi rfl <| remU32 (a := ((UInt32.ofNat ((w % (100000000 : UInt64)).toNat)) % (10000 : UInt32))) (b := (100 : UInt32)) rfl rfl (by decide) <| mulU32 (a := (((UInt32.ofNat ((w % (100000000 : UInt64)).toNat)) % (10000 : UInt32)) % (100 : UInt32))) (b := (2 : UInt32)) rfl rfl ?_
  have N35 : ((((UInt32.ofNat ((w % (100000000 : UInt64)).toNat)) % (10000 : UInt32)) % (100 : UInt32)) * (2 : UInt32)).toNat = 2 * (w.toNat % 100) := by rw [UInt32.toNat_mul, UInt32.toNat_mod, N29]; simp only [UInt32.reduceToNat, Nat.reducePow]; omega
  refine agi rfl <| agi rfl <| jsr <| mvi rfl <| quoU32 (a := ((UInt32.ofNat ((w % (100000000 : UInt64)).toNat)) / (10000 : UInt32))) (b := (100 : UInt32)) rfl rfl (by decide) <| mulU32 (a := (((UInt32.ofNat ((w % (100000000 : UInt64)).toNat)) / (10000 : UInt32)) / (100 : UInt32))) (b := (2 : UInt32)) rfl rfl ?_
  have N38 : ((((UInt32.ofNat ((w % (100000000 : UInt64)).toNat)) / (10000 : UInt32)) / (100 : UInt32)) * (2 : UInt32)).toNat = 2 * (w.toNat / 1000000 % 100) := by rw [UInt32.toNat_mul, UInt32.toNat_div, N27]; simp only [UInt32.reduceToNat, Nat.reducePow]; omega
  refine mvi rfl <| remU32 (a := ((UInt32.ofNat ((w % (100000000 : UInt64)).toNat)) / (10000 : UInt32))) (b := (100 : UInt32)) rfl rfl (by decide) <| mulU32 (a := (((UInt32.ofNat ((w % (100000000 : UInt64)).toNat)) / (10000 : UInt32)) % (100 : UInt32))) (b := (2 : UInt32)) rfl rfl ?_
  have N41 : ((((UInt32.ofNat ((w % (100000000 : UInt64)).toNat)) / (10000 : UInt32)) % (100 : UInt32)) * (2 : UInt32)).toNat = 2 * (w.toNat / 10000 % 100) := by rw [UInt32.toNat_mul, UInt32.toNat_mod, N27]; simp only [UInt32.reduceToNat, Nat.reducePow]; omega
  refine agi rfl <| agi rfl <| jt <| c_seq <| c_dr [] [] [(0, 0), (1, 0), (2, 0), (3, 0), (4, 0), (5, 0), (6, 0), (7, 0), (8, 0), (9, 0), (10, 0), (11, 0), (12, 1), (13, 0), (14, 1)] follows (by kernel_rfl) calm_body (keepS [] rfl) <| mvl rfl <| mvi rfl <| subi rfl rfl rfl (by omega) <| mvl rfl <| mvi rfl <| subi rfl rfl rfl (by omega) <| mvi rfl <| addU32 (a := ((((UInt32.ofNat ((w % (100000000 : UInt64)).toNat)) % (10000 : UInt32)) % (100 : UInt32)) * (2 : UInt32))) (b := (1 : UInt32)) rfl rfl ?_
  have N49 : (((((UInt32.ofNat ((w % (100000000 : UInt64)).toNat)) % (10000 : UInt32)) % (100 : UInt32)) * (2 : UInt32)) + (1 : UInt32)).toNat = 2 * (w.toNat % 100) + 1 := by rw [UInt32.toNat_add, N35]; simp only [UInt32.reduceToNat, Nat.reducePow]; omega
  refine idxT (s := smallsL) ((((((UInt32.ofNat ((w % (100000000 : UInt64)).toNat)) % (10000 : UInt32)) % (100 : UInt32)) * (2 : UInt32)) + (1 : UInt32)).toNat) (by kernel_rfl) rfl uy9 rfl (by rw [smallsL_length]; omega) <| mvi rfl <| idxT (s := smallsL) (((((UInt32.ofNat ((w % (100000000 : UInt64)).toNat)) % (10000 : UInt32)) % (100 : UInt32)) * (2 : UInt32)).toNat) (by kernel_rfl) rfl uy9 rfl (by rw [smallsL_length]; omega) <| ixa (nd - 1) rfl rfl uy93 ty5.sz (by omega) (by omega) <| stG 0 (nd - 1) _ (List.getD smallsL ((((((UInt32.ofNat ((w % (100000000 : UInt64)).toNat)) % (10000 : UInt32)) % (100 : UInt32)) * (2 : UInt32)) + (1 : UInt32)).toNat) 0) rfl rfl rfl rfl (by first | omega | (simp; done) | (simp; omega) | (simp at *; omega)) ty5 ⟨keepI [] rfl, ?_⟩
  refine ixa (nd - 2) rfl rfl uy93 ty5.sz (by omega) (by omega) <| stG 0 (nd - 2) _ (List.getD smallsL (((((UInt32.ofNat ((w % (100000000 : UInt64)).toNat)) % (10000 : UInt32)) % (100 : UInt32)) * (2 : UInt32)).toNat) 0) rfl rfl rfl rfl (by first | omega | (simp; done) | (simp; omega) | (simp at *; omega)) ty5 ⟨keepI [] rfl, ?_⟩
  refine jt <| c_seq <| c_dr [] [] [(0, 0), (1, 0), (2, 0), (3, 0), (4, 0), (5, 0), (6, 0), (7, 0), (8, 0), (9, 0), (10, 0), (11, 0), (12, 1), (13, 0), (14, 1)] follows (by kernel_rfl) calm_body (keepS [] rfl) <| mvl rfl <| mvi rfl <| subi rfl rfl rfl (by omega) <| mvl rfl <| mvi rfl <| subi rfl rfl rfl (by omega) <| mvi rfl <| addU32 (a := ((((UInt32.ofNat ((w % (100000000 : UInt64)).toNat)) % (10000 : UInt32)) / (100 : UInt32)) * (2 : UInt32))) (b := (1 : UInt32)) rfl rfl ?_
  have N62 : (((((UInt32.ofNat ((w % (100000000 : UInt64)).toNat)) % (10000 : UInt32)) / (100 : UInt32)) * (2 : UInt32)) + (1 : UInt32)).toNat = 2 * (w.toNat / 100 % 100) + 1 := by rw [UInt32.toNat_add, N32]; simp only [UInt32.reduceToNat, Nat.reducePow]; omega
  refine idxT (s := smallsL) ((((((UInt32.ofNat ((w % (100000000 : UInt64)).toNat)) % (10000 : UInt32)) / (100 : UInt32)) * (2 : UInt32)) + (1 : UInt32)).toNat) (by kernel_rfl) rfl uy9 rfl (by rw [smallsL_length]; omega) <| mvi rfl <| idxT (s := smallsL) (((((UInt32.ofNat ((w % (100000000 : UInt64)).toNat)) % (10000 : UInt32)) / (100 : UInt32)) * (2 : UInt32)).toNat) (by kernel_rfl) rfl uy9 rfl (by rw [smallsL_length]; omega) <| ixa (nd - 3) rfl rfl uy93 ty5.sz (by omega) (by omega) <| stG 0 (nd - 3) _ (List.getD smallsL ((((((UInt32.ofNat ((w % (100000000 : UInt64)).toNat)) % (10000 : UInt32)) / (100 : UInt32)) * (2 : UInt32)) + (1 : UInt32)).toNat) 0) rfl rfl rfl rfl (by first | omega | (simp; done) | (simp; omega) | (simp at *; omega)) ty5 ⟨keepI [] rfl, ?_⟩
  refine ixa (nd - 4) rfl rfl uy93 ty5.sz (by omega) (by omega) <| stG 0 (nd - 4) _ (List.getD smallsL (((((UInt32.ofNat ((w % (100000000 : UInt64)).toNat)) % (10000 : UInt32)) / (100 : UInt32)) * (2 : UInt32)).toNat) 0) rfl rfl rfl rfl (by first | omega | (simp; done) | (simp; omega) | (simp at *; omega)) ty5 ⟨keepI [] rfl, ?_⟩
  refine jt <| c_seq <| c_dr [] [] [(0, 0), (1, 0), (2, 0), (3, 0), (4, 0), (5, 0), (6, 0), (7, 0), (8, 0), (9, 0), (10, 0), (11, 0), (12, 1), (13, 0), (14, 1)] follows (by kernel_rfl) calm_body (keepS [] rfl) <| mvl rfl <| mvi rfl <| subi rfl rfl rfl (by omega) <| mvl rfl <| mvi rfl <| subi rfl rfl rfl (by omega) <| mvi rfl <| addU32 (a := ((((UInt32.ofNat ((w % (100000000 : UInt64)).toNat)) / (10000 : UInt32)) % (100 : UInt32)) * (2 : UInt32))) (b := (1 : UInt32)) rfl rfl ?_
  have N75 : (((((UInt32.ofNat ((w % (100000000 : UInt64)).toNat)) / (10000 : UInt32)) % (100 : UInt32)) * (2 : UInt32)) + (1 : UInt32)).toNat = 2 * (w.toNat / 10000 % 100) + 1 := by rw [UInt32.toNat_add, N41]; simp only [UInt32.reduceToNat, Nat.reducePow]; omega
  refine idxT (s := smallsL) ((((((UInt32.ofNat ((w % (100000000 : UInt64)).toNat)) / (10000 : UInt32)) % (100 : UInt32)) * (2 : UInt32)) + (1 : UInt32)).toNat) (by kernel_rfl) rfl uy9 rfl (by rw [smallsL_length]; omega) <| mvi rfl <| idxT (s := smallsL) (((((UInt32.ofNat ((w % (100000000 : UInt64)).toNat)) / (10000 : UInt32)) % (100 : UInt32)) * (2 : UInt32)).toNat) (by kernel_rfl) rfl uy9 rfl (by rw [smallsL_length]; omega) <| ixa (nd - 5) rfl rfl uy93 ty5.sz (by omega) (by omega) <| stG 0 (nd - 5) _ (List.getD smallsL ((((((UInt32.ofNat ((w % (100000000 : UInt64)).toNat)) / (10000 : UInt32)) % (100 : UInt32)) * (2 : UInt32)) + (1 : UInt32)).toNat) 0) rfl rfl rfl rfl (by first | omega | (simp; done) | (simp; omega) | (simp at *; omega)) ty5 ⟨keepI [] rfl, ?_⟩
  refine ixa (nd - 6) rfl rfl uy93 ty5.sz (by omega) (by omega) <| stG 0 (nd - 6) _ (List.getD smallsL (((((UInt32.ofNat ((w % (100000000 : UInt64)).toNat)) / (10000 : UInt32)) % (100 : UInt32)) * (2 : UInt32)).toNat) 0) rfl rfl rfl rfl (by first | omega | (simp; done) | (simp; omega) | (simp at *; omega)) ty5 ⟨keepI [] rfl, ?_⟩
  refine jt <| c_seq <| c_dr [] [] [(0, 0), (1, 0), (2, 0), (3, 0), (4, 0), (5, 0), (6, 0), (7, 0), (8, 0), (9, 0), (10, 0), (11, 0), (12, 1), (13, 0), (14, 1)] follows (by kernel_rfl) calm_body (keepS [] rfl) <| mvl rfl <| mvi rfl <| subi rfl rfl rfl (by omega) <| mvl rfl <| mvi rfl <| subi rfl rfl rfl (by omega) <| mvi rfl <| addU32 (a := ((((UInt32.ofNat ((w % (100000000 : UInt64)).toNat)) / (10000 : UInt32)) / (100 : UInt32)) * (2 : UInt32))) (b := (1 : UInt32)) rfl rfl ?_
  have N88 : (((((UInt32.ofNat ((w % (100000000 : UInt64)).toNat)) / (10000 : UInt32)) / (100 : UInt32)) * (2 : UInt32)) + (1 : UInt32)).toNat = 2 * (w.toNat / 1000000 % 100) + 1 := by rw [UInt32.toNat_add, N38]; simp only [UInt32.reduceToNat, Nat.reducePow]; omega
  refine idxT (s := smallsL) ((((((UInt32.ofNat ((w % (100000000 : UInt64)).toNat)) / (10000 : UInt32)) / (100 : UInt32)) * (2 : UInt32)) + (1 : UInt32)).toNat) (by kernel_rfl) rfl uy9 rfl (by rw [smallsL_length]; omega) <| mvi rfl <| idxT (s := smallsL) (((((UInt32.ofNat ((w % (100000000 : UInt64)).toNat)) / (10000 : UInt32)) / (100 : UInt32)) * (2 : UInt32)).toNat) (by kernel_rfl) rfl uy9 rfl (by rw [smallsL_length]; omega) <| ixa (nd - 7) rfl rfl uy93 ty5.sz (by omega) (by omega) <| stG 0 (nd - 7) _ (List.getD smallsL ((((((UInt32.ofNat ((w % (100000000 : UInt64)).toNat)) / (10000 : UInt32)) / (100 : UInt32)) * (2 : UInt32)) + (1 : UInt32)).toNat) 0) rfl rfl rfl rfl (by first | omega | (simp; done) | (simp; omega) | (simp at *; omega)) ty5 ⟨keepI [] rfl, ?_⟩
  refine ixa (nd - 8) rfl rfl uy93 ty5.sz (by omega) (by omega) <| stG 0 (nd - 8) _ (List.getD smallsL (((((UInt32.ofNat ((w % (100000000 : UInt64)).toNat)) / (10000 : UInt32)) / (100 : UInt32)) * (2 : UInt32)).toNat) 0) rfl rfl rfl rfl (by first | omega | (simp; done) | (simp; omega) | (simp at *; omega)) ty5 ⟨keepI [] rfl, ?_⟩
  refine jr <| mvi rfl <| subi rfl rfl rfl (by omega) <| agi rfl <| jn <| e_in ?_
  exact e_loop (nd - 8, ((((((((ys.set (nd - 1) (List.getD smallsL ((((((UInt32.ofNat ((w % (100000000 : UInt64)).toNat)) % (10000 : UInt32)) % (100 : UInt32)) * (2 : UInt32)) + (1 : UInt32)).toNat) 0)).set (nd - 2) (List.getD smallsL (((((UInt32.ofNat ((w % (100000000 : UInt64)).toNat)) % (10000 : UInt32)) % (100 : UInt32)) * (2 : UInt32)).toNat) 0)).set (nd - 3) (List.getD smallsL ((((((UInt32.ofNat ((w % (100000000 : UInt64)).toNat)) % (10000 : UInt32)) / (100 : UInt32)) * (2 : UInt32)) + (1 : UInt32)).toNat) 0)).set (nd - 4) (List.getD smallsL (((((UInt32.ofNat ((w % (100000000 : UInt64)).toNat)) % (10000 : UInt32)) / (100 : UInt32)) * (2 : UInt32)).toNat) 0)).set (nd - 5) (List.getD smallsL ((((((UInt32.ofNat ((w % (100000000 : UInt64)).toNat)) / (10000 : UInt32)) % (100 : UInt32)) * (2 : UInt32)) + (1 : UInt32)).toNat) 0)).set (nd - 6) (List.getD smallsL (((((UInt32.ofNat ((w % (100000000 : UInt64)).toNat)) / (10000 : UInt32)) % (100 : UInt32)) * (2 : UInt32)).toNat) 0)).set (nd - 7) (List.getD smallsL ((((((UInt32.ofNat ((w % (100000000 : UInt64)).toNat)) / (10000 : UInt32)) / (100 : UInt32)) * (2 : UInt32)) + (1 : UInt32)).toNat) 0)).set (nd - 8) (List.getD smallsL (((((UInt32.ofNat ((w % (100000000 : UInt64)).toNat)) / (10000 : UInt32)) / (100 : UInt32)) * (2 : UInt32)).toNat) 0)), w / 100000000) (by rw [show (w / 100000000).toNat = w.toNat / 100000000 from by rw [UInt64.toNat_div]; rfl]; exact FB.eight hI1 (by omega) (smh2 N49 (by omega) (by omega)) (sml2 N35 (by omega) (by omega)) (smh2 N62 (by omega) (by omega)) (sml2 N32 (by omega) (by omega)) (smh2 N75 (by omega) (by omega)) (sml2 N41 (by omega) (by omega)) (smh2 N88 (by omega) (by omega)) (sml2 N38 (by omega) (by omega))) (by have := hI1.le; show nd - 8 < nd; omega) (⟨congrArg (Value.int _) (by omega), rfl, trivial⟩) rfl rfl rfl
 ·replace h1 := of_decide_eq_false h1
  refine c_exit rfl <| e_then <| csr <| mvi rfl <| cvNU32 (n := w.toNat) rfl uy72 uy153 ?_
  have N97 : (UInt32.ofNat w.toNat).toNat = w.toNat := by exact fb_x hI1.lt (by omega)
  refine agi rfl <| jt <| c_seq <| csr <| mvi rfl <| cmp _ rfl rfl rfl <| jt <| c_cond rfl (fun h2 => ?_) (fun h2 => ?_)
  ·replace h2 := of_decide_eq_true h2
   refine csr <| mvi rfl <| remU32 (a := (UInt32.ofNat w.toNat)) (b := (10000 : UInt32)) rfl rfl (by decide) ?_
   have N101 : ((UInt32.ofNat w.toNat) % (10000 : UInt32)).toNat = w.toNat % 10000 := by rw [UInt32.toNat_mod, N97]; rfl
   refine agi rfl <| jsr <| mvi rfl <| quoU32 (a := (UInt32.ofNat w.toNat)) (b := (10000 : UInt32)) rfl rfl (by decide) ?_
   have N103 : ((UInt32.ofNat w.toNat) / (10000 : UInt32)).toNat = w.toNat / 10000 := by rw [UInt32.toNat_div, N97]; rfl
   refine agi rfl <| jsr <| mvi rfl <| quoU32 (a := ((UInt32.ofNat w.toNat) % (10000 : UInt32))) (b := (100 : UInt32)) rfl rfl (by decide) <| mulU32 (a := (((UInt32.ofNat w.toNat) % (10000 : UInt32)) / (100 : UInt32))) (b := (2 : UInt32)) rfl rfl ?_
   have N106 : ((((UInt32.ofNat w.toNat) % (10000 : UInt32)) / (100 : UInt32)) * (2 : UInt32)).toNat = 2 * (w.toNat / 100 % 100) := by rw [UInt32.toNat_mul, UInt32.toNat_div, N101]; simp only [UInt32.reduceToNat, Nat.reducePow]; omega
   refine mvi rfl <| remU32 (a := ((UInt32.ofNat w.toNat) % (10000 : UInt32))) (b := (100 : UInt32)) rfl rfl (by decide) <| mulU32 (a := (((UInt32.ofNat w.toNat) % (10000 : UInt32)) % (100 : UInt32))) (b := (2 : UInt32)) rfl rfl ?_
   have N109 : ((((UInt32.ofNat w.toNat) % (10000 : UInt32)) % (100 : UInt32)) * (2 : UInt32)).toNat = 2 * (w.toNat % 100) := by rw [UInt32.toNat_mul, UInt32.toNat_mod, N101]; simp only [UInt32.reduceToNat, Nat.reducePow]; omega
   refine agi rfl <| agi rfl <| jt <| c_seq <| c_dr [] [] [(0, 0), (1, 0), (2, 0), (3, 0), (4, 0), (5, 0), (6, 0), (7, 0), (8, 0), (9, 0), (10, 0), (11, 0), (12, 1), (13, 0), (14, 1)] follows (by kernel_rfl) calm_body (keepS [] rfl) <| mvl rfl <| mvi rfl <| subi rfl rfl rfl (by omega) <| mvl rfl <| mvi rfl <| subi rfl rfl rfl (by omega) <| mvi rfl <| addU32 (a := ((((UInt32.ofNat w.toNat) % (10000 : UInt32)) % (100 : UInt32)) * (2 : UInt32))) (b := (1 : UInt32)) rfl rfl ?_
   have N117 : (((((UInt32.ofNat w.toNat) % (10000 : UInt32)) % (100 : UInt32)) * (2 : UInt32)) + (1 : UInt32)).toNat = 2 * (w.toNat % 100) + 1 := by rw [UInt32.toNat_add, N109]; simp only [UInt32.reduceToNat, Nat.reducePow]; omega
   refine idxT (s := smallsL) ((((((UInt32.ofNat w.toNat) % (10000 : UInt32)) % (100 : UInt32)) * (2 : UInt32)) + (1 : UInt32)).toNat) (by kernel_rfl) rfl uy9 rfl (by rw [smallsL_length]; omega) <| mvi rfl <| idxT (s := smallsL) (((((UInt32.ofNat w.toNat) % (10000 : UInt32)) % (100 : UInt32)) * (2 : UInt32)).toNat) (by kernel_rfl) rfl uy9 rfl (by rw [smallsL_length]; omega) <| ixa (nd - 1) rfl rfl uy93 ty5.sz (by omega) (by omega) <| stG 0 (nd - 1) _ (List.getD smallsL ((((((UInt32.ofNat w.toNat) % (10000 : UInt32)) % (100 : UInt32)) * (2 : UInt32)) + (1 : UInt32)).toNat) 0) rfl rfl rfl rfl (by first | omega | (simp; done) | (simp; omega) | (simp at *; omega)) ty5 ⟨keepI [] rfl, ?_⟩
   refine ixa (nd - 2) rfl rfl uy93 ty5.sz (by omega) (by omega) <| stG 0 (nd - 2) _ (List.getD smallsL (((((UInt32.ofNat w.toNat) % (10000 : UInt32)) % (100 : UInt32)) * (2 : UInt32)).toNat) 0) rfl rfl rfl rfl (by first | omega | (simp; done) | (simp; omega) | (simp at *; omega)) ty5 ⟨keepI [] rfl, ?_⟩
   refine jt <| c_seq <| c_dr [] [] [(0, 0), (1, 0), (2, 0), (3, 0), (4, 0), (5, 0), (6, 0), (7, 0), (8, 0), (9, 0), (10, 0), (11, 0), (12, 1), (13, 0), (14, 1)] follows (by kernel_rfl) calm_body (keepS [] rfl) <| mvl rfl <| mvi rfl <| subi rfl rfl rfl (by omega) <| mvl rfl <| mvi rfl <| subi rfl rfl rfl (by omega) <| mvi rfl <| addU32 (a := ((((UInt32.ofNat w.toNat) % (10000 : UInt32)) / (100 : UInt32)) * (2 : UInt32))) (b := (1 : UInt32)) rfl rfl ?_
   have N130 : (((((UInt32.ofNat w.toNat) % (10000 : UInt32)) / (100 : UInt32)) * (2 : UInt32)) + (1 : UInt32)).toNat = 2 * (w.toNat / 100 % 100) + 1 := by rw [UInt32.toNat_add, N106]; simp only [UInt32.reduceToNat, Nat.reducePow]; omega
   refine idxT (s := smallsL) ((((((UInt32.ofNat w.toNat) % (10000 : UInt32)) / (100 : UInt32)) * (2 : UInt32)) + (1 : UInt32)).toNat) (by kernel_rfl) rfl uy9 rfl (by rw [smallsL_length]; omega) <| mvi rfl <| idxT (s := smallsL) (((((UInt32.ofNat w.toNat) % (10000 : UInt32)) / (100 : UInt32)) * (2 : UInt32)).toNat) (by kernel_rfl) rfl uy9 rfl (by rw [smallsL_length]; omega) <| ixa (nd - 3) rfl rfl uy93 ty5.sz (by omega) (by omega) <| stG 0 (nd - 3) _ (List.getD smallsL ((((((UInt32.ofNat w.toNat) % (10000 : UInt32)) / (100 : UInt32)) * (2 : UInt32)) + (1 : UInt32)).toNat) 0) rfl rfl rfl rfl (by first | omega | (simp; done) | (simp; omega) | (simp at *; omega)) ty5 ⟨keepI [] rfl, ?_⟩
   refine ixa (nd - 4) rfl rfl uy93 ty5.sz (by omega) (by omega) <| stG 0 (nd - 4) _ (List.getD smallsL (((((UInt32.ofNat w.toNat) % (10000 : UInt32)) / (100 : UInt32)) * (2 : UInt32)).toNat) 0) rfl rfl rfl rfl (by first | omega | (simp; done) | (simp; omega) | (simp at *; omega)) ty5 ⟨keepI [] rfl, ?_⟩
   refine jr <| mvi rfl <| subi rfl rfl rfl (by omega) <| agi rfl <| jt <| c_seq <| c_seq ?_
   have G4 := FB.four hI1 (by omega) (smh2 N117 (by omega) (by omega)) (sml2 N109 (by omega) (by omega)) (smh2 N130 (by omega) (by omega)) (sml2 N106 (by omega) (by omega))
   refine c_reg <| mvi rfl <| cmp _ rfl rfl rfl <| jt <| c_cond rfl (fun h3 => ?_) (fun h3 => ?_)
   ·replace h3 := of_decide_eq_true h3
    refine csr <| mvi rfl <| remU32 (a := ((UInt32.ofNat w.toNat) / (10000 : UInt32))) (b := (100 : UInt32)) rfl rfl (by decide) <| mulU32 (a := (((UInt32.ofNat w.toNat) / (10000 : UInt32)) % (100 : UInt32))) (b := (2 : UInt32)) rfl rfl ?_
    have N142 : ((((UInt32.ofNat w.toNat) / (10000 : UInt32)) % (100 : UInt32)) * (2 : UInt32)).toNat = 2 * (w.toNat / 10000 % 100) := by rw [UInt32.toNat_mul, UInt32.toNat_mod, N103]; simp only [UInt32.reduceToNat, Nat.reducePow]; omega
    refine agi rfl <| jsr <| mvi rfl <| quoU32 (a := ((UInt32.ofNat w.toNat) / (10000 : UInt32))) (b := (100 : UInt32)) rfl rfl (by decide) ?_
    have N144 : (((UInt32.ofNat w.toNat) / (10000 : UInt32)) / (100 : UInt32)).toNat = w.toNat / 10000 / 100 := by rw [UInt32.toNat_div, N103]; rfl
    refine agi rfl <| jt <| c_seq <| c_dr [] [] [(0, 0), (1, 0), (2, 0), (3, 0), (4, 0), (5, 0), (6, 0), (7, 0), (8, 0), (9, 0), (10, 0), (11, 0), (12, 1), (13, 0), (14, 1)] follows (by kernel_rfl) calm_body (keepS [] rfl) <| mvl rfl <| mvi rfl <| subi rfl rfl rfl (by omega) <| mvl rfl <| mvi rfl <| subi rfl rfl rfl (by omega) <| mvi rfl <| addU32 (a := ((((UInt32.ofNat w.toNat) / (10000 : UInt32)) % (100 : UInt32)) * (2 : UInt32))) (b := (1 : UInt32)) rfl rfl ?_
    have N152 : (((((UInt32.ofNat w.toNat) / (10000 : UInt32)) % (100 : UInt32)) * (2 : UInt32)) + (1 : UInt32)).toNat = 2 * (w.toNat / 10000 % 100) + 1 := by rw [UInt32.toNat_add, N142]; simp only [UInt32.reduceToNat, Nat.reducePow]; omega
    refine idxT (s := smallsL) ((((((UInt32.ofNat w.toNat) / (10000 : UInt32)) % (100 : UInt32)) * (2 : UInt32)) + (1 : UInt32)).toNat) (by kernel_rfl) rfl uy9 rfl (by rw [smallsL_length]; omega) <| mvi rfl <| idxT (s := smallsL) (((((UInt32.ofNat w.toNat) / (10000 : UInt32)) % (100 : UInt32)) * (2 : UInt32)).toNat) (by kernel_rfl) rfl uy9 rfl (by rw [smallsL_length]; omega) <| ixa (nd - 4 - 1) rfl rfl uy93 ty5.sz (by omega) (by omega) <| stG 0 (nd - 4 - 1) _ (List.getD smallsL ((((((UInt32.ofNat w.toNat) / (10000 : UInt32)) % (100 : UInt32)) * (2 : UInt32)) + (1 : UInt32)).toNat) 0) rfl rfl rfl rfl (by first | omega | (simp; done) | (simp; omega) | (simp at *; omega)) ty5 ⟨keepI [] rfl, ?_⟩
    refine ixa (nd - 4 - 2) rfl rfl uy93 ty5.sz (by omega) (by omega) <| stG 0 (nd - 4 - 2) _ (List.getD smallsL (((((UInt32.ofNat w.toNat) / (10000 : UInt32)) % (100 : UInt32)) * (2 : UInt32)).toNat) 0) rfl rfl rfl rfl (by first | omega | (simp; done) | (simp; omega) | (simp at *; omega)) ty5 ⟨keepI [] rfl, ?_⟩
    refine jr <| mvi rfl <| subi rfl rfl rfl (by omega) <| agi rfl <| jt <| c_seq ?_
    have G2 := FB.two G4 (by omega) (smh2 N152 (by omega) (by omega)) (sml2 N142 (by omega) (by omega))
    refine c_reg <| mvi rfl <| cmp _ rfl rfl rfl <| jt <| c_cond rfl (fun h4 => ?_) (fun h4 => ?_)
    ·replace h4 := of_decide_eq_true h4
     refine c_reg <| mvl rfl <| mvi rfl <| addU32 (a := (48 : UInt32)) (b := (((UInt32.ofNat w.toNat) / (10000 : UInt32)) / (100 : UInt32))) rfl rfl ?_
     have N164 : ((48 : UInt32) + (((UInt32.ofNat w.toNat) / (10000 : UInt32)) / (100 : UInt32))).toNat = 48 + w.toNat / 10000 / 100 := by have L := G2.lt; rw [show nd - 4 - 2 = 1 by omega] at L; rw [UInt32.toNat_add, N144]; simp only [UInt32.reduceToNat, Nat.reducePow]; omega
     refine cvNU8 (n := ((48 : UInt32) + (((UInt32.ofNat w.toNat) / (10000 : UInt32)) / (100 : UInt32))).toNat) rfl uy153 uy5 <| ixa 0 rfl rfl uy93 ty5.sz rfl (by omega) <| stG 0 0 _ (UInt8.ofNat (((48 : UInt32) + (((UInt32.ofNat w.toNat) / (10000 : UInt32)) / (100 : UInt32))).toNat)) rfl rfl rfl rfl (by first | omega | (simp; done) | (simp; omega) | (simp at *; omega)) ty5 ⟨trivial, ?_⟩
     refine jn ?_
     exact j_end (own0 := [Gseg b E pre ys0 post]) (ro0 := []) (.inr rfl) rfl (hr0 Tryz.results153) [0] [] [_] [] [] _ rfl rfl (by kernel_rfl) rfl impl_nil (⟨rfl, by have L := G2.lt; rw [show nd - 4 - 2 = 1 by omega] at L; have G1 := FB.one G2 (by omega) (dch_small N164 (by omega)); rw [show nd - 4 - 2 - 1 = 0 by omega] at G1; rw [G1.fin], rfl⟩)
    ·replace h4 := of_decide_eq_false h4
     refine c_skip ?_
     exact j_end (own0 := [Gseg b E pre ys0 post]) (ro0 := []) (.inr rfl) rfl (hr0 Tryz.results153) [0] [] [_] [] [] _ rfl rfl (by kernel_rfl) rfl impl_nil (⟨rfl, by rw [G2.fin0 (by omega)], rfl⟩)
   ·replace h3 := of_decide_eq_false h3
    refine c_skip <| e_then <| c_seq ?_
    have G2 := G4
    refine c_reg <| mvi rfl <| cmp _ rfl rfl rfl <| jt <| c_cond rfl (fun h5 => ?_) (fun h5 => ?_)
    ·replace h5 := of_decide_eq_true h5
     refine c_reg <| mvl rfl <| mvi rfl <| addU32 (a := (48 : UInt32)) (b := ((UInt32.ofNat w.toNat) / (10000 : UInt32))) rfl rfl ?_
     have N164 : ((48 : UInt32) + ((UInt32.ofNat w.toNat) / (10000 : UInt32))).toNat = 48 + w.toNat / 10000 := by have L := G2.lt; rw [show nd - 4 = 1 by omega] at L; rw [UInt32.toNat_add, N103]; simp only [UInt32.reduceToNat, Nat.reducePow]; omega
     refine cvNU8 (n := ((48 : UInt32) + ((UInt32.ofNat w.toNat) / (10000 : UInt32))).toNat) rfl uy153 uy5 <| ixa 0 rfl rfl uy93 ty5.sz rfl (by omega) <| stG 0 0 _ (UInt8.ofNat (((48 : UInt32) + ((UInt32.ofNat w.toNat) / (10000 : UInt32))).toNat)) rfl rfl rfl rfl (by first | omega | (simp; done) | (simp; omega) | (simp at *; omega)) ty5 ⟨trivial, ?_⟩
     refine jn ?_
     exact j_end (own0 := [Gseg b E pre ys0 post]) (ro0 := []) (.inr rfl) rfl (hr0 Tryz.results153) [0] [] [_] [] [] _ rfl rfl (by kernel_rfl) rfl impl_nil (⟨rfl, by have L := G2.lt; rw [show nd - 4 = 1 by omega] at L; have G1 := FB.one G2 (by omega) (dch_small N164 (by omega)); rw [show nd - 4 - 1 = 0 by omega] at G1; rw [G1.fin], rfl⟩)
    ·replace h5 := of_decide_eq_false h5
     refine c_skip ?_
     exact j_end (own0 := [Gseg b E pre ys0 post]) (ro0 := []) (.inr rfl) rfl (hr0 Tryz.results153) [0] [] [_] [] [] _ rfl rfl (by kernel_rfl) rfl impl_nil (⟨rfl, by rw [G2.fin0 (by omega)], rfl⟩)
  ·replace h2 := of_decide_eq_false h2
   refine c_skip <| e_then <| c_seq <| c_seq ?_
   have G4 := hI1
   refine c_reg <| mvi rfl <| cmp _ rfl rfl rfl <| jt <| c_cond rfl (fun h6 => ?_) (fun h6 => ?_)
   ·replace h6 := of_decide_eq_true h6
    refine csr <| mvi rfl <| remU32 (a := (UInt32.ofNat w.toNat)) (b := (100 : UInt32)) rfl rfl (by decide) <| mulU32 (a := ((UInt32.ofNat w.toNat) % (100 : UInt32))) (b := (2 : UInt32)) rfl rfl ?_
    have N142 : (((UInt32.ofNat w.toNat) % (100 : UInt32)) * (2 : UInt32)).toNat = 2 * (w.toNat % 100) := by rw [UInt32.toNat_mul, UInt32.toNat_mod, N97]; simp only [UInt32.reduceToNat, Nat.reducePow]; omega
    refine agi rfl <| jsr <| mvi rfl <| quoU32 (a := (UInt32.ofNat w.toNat)) (b := (100 : UInt32)) rfl rfl (by decide) ?_
    have N144 : ((UInt32.ofNat w.toNat) / (100 : UInt32)).toNat = w.toNat / 100 := by rw [UInt32.toNat_div, N97]; rfl
    refine agi rfl <| jt <| c_seq <| c_dr [] [] [(0, 0), (1, 0), (2, 0), (3, 0), (4, 0), (5, 0), (6, 0), (7, 0), (8, 0), (9, 0), (10, 0), (11, 0), (12, 1), (13, 0), (14, 1)] follows (by kernel_rfl) calm_body (keepS [] rfl) <| mvl rfl <| mvi rfl <| subi rfl rfl rfl (by omega) <| mvl rfl <| mvi rfl <| subi rfl rfl rfl (by omega) <| mvi rfl <| addU32 (a := (((UInt32.ofNat w.toNat) % (100 : UInt32)) * (2 : UInt32))) (b := (1 : UInt32)) rfl rfl ?_
    have N152 : ((((UInt32.ofNat w.toNat) % (100 : UInt32)) * (2 : UInt32)) + (1 : UInt32)).toNat = 2 * (w.toNat % 100) + 1 := by rw [UInt32.toNat_add, N142]; simp only [UInt32.reduceToNat, Nat.reducePow]; omega
    refine idxT (s := smallsL) (((((UInt32.ofNat w.toNat) % (100 : UInt32)) * (2 : UInt32)) + (1 : UInt32)).toNat) (by kernel_rfl) rfl uy9 rfl (by rw [smallsL_length]; omega) <| mvi rfl <| idxT (s := smallsL) ((((UInt32.ofNat w.toNat) % (100 : UInt32)) * (2 : UInt32)).toNat) (by kernel_rfl) rfl uy9 rfl (by rw [smallsL_length]; omega) <| ixa (nd - 1) rfl rfl uy93 ty5.sz (by omega) (by omega) <| stG 0 (nd - 1) _ (List.getD smallsL (((((UInt32.ofNat w.toNat) % (100 : UInt32)) * (2 : UInt32)) + (1 : UInt32)).toNat) 0) rfl rfl rfl rfl (by first | omega | (simp; done) | (simp; omega) | (simp at *; omega)) ty5 ⟨keepI [] rfl, ?_⟩
    refine ixa (nd - 2) rfl rfl uy93 ty5.sz (by omega) (by omega) <| stG 0 (nd - 2) _ (List.getD smallsL ((((UInt32.ofNat w.toNat) % (100 : UInt32)) * (2 : UInt32)).toNat) 0) rfl rfl rfl rfl (by first | omega | (simp; done) | (simp; omega) | (simp at *; omega)) ty5 ⟨keepI [] rfl, ?_⟩
    refine jr <| mvi rfl <| subi rfl rfl rfl (by omega) <| agi rfl <| jt <| c_seq ?_
    have G2 := FB.two G4 (by omega) (smh2 N152 (by omega) (by omega)) (sml2 N142 (by omega) (by omega))
    refine c_reg <| mvi rfl <| cmp _ rfl rfl rfl <| jt <| c_cond rfl (fun h7 => ?_) (fun h7 => ?_)
    ·replace h7 := of_decide_eq_true h7
     refine c_reg <| mvl rfl <| mvi rfl <| addU32 (a := (48 : UInt32)) (b := ((UInt32.ofNat w.toNat) / (100 : UInt32))) rfl rfl ?_
     have N164 : ((48 : UInt32) + ((UInt32.ofNat w.toNat) / (100 : UInt32))).toNat = 48 + w.toNat / 100 := by have L := G2.lt; rw [show nd - 2 = 1 by omega] at L; rw [UInt32.toNat_add, N144]; simp only [UInt32.reduceToNat, Nat.reducePow]; omega
     refine cvNU8 (n := ((48 : UInt32) + ((UInt32.ofNat w.toNat) / (100 : UInt32))).toNat) rfl uy153 uy5 <| ixa 0 rfl rfl uy93 ty5.sz rfl (by omega) <| stG 0 0 _ (UInt8.ofNat (((48 : UInt32) + ((UInt32.ofNat w.toNat) / (100 : UInt32))).toNat)) rfl rfl rfl rfl (by first | omega | (simp; done) | (simp; omega) | (simp at *; omega)) ty5 ⟨trivial, ?_⟩
     refine jn ?_
     exact j_end (own0 := [Gseg b E pre ys0 post]) (ro0 := []) (.inr rfl) rfl (hr0 Tryz.results153) [0] [] [_] [] [] _ rfl rfl (by kernel_rfl) rfl impl_nil (⟨rfl, by have L := G2.lt; rw [show nd - 2 = 1 by omega] at L; have G1 := FB.one G2 (by omega) (dch_small N164 (by omega)); rw [show nd - 2 - 1 = 0 by omega] at G1; rw [G1.fin], rfl⟩)
    ·replace h7 := of_decide_eq_false h7
     refine c_skip ?_
     exact j_end (own0 := [Gseg b E pre ys0 post]) (ro0 := []) (.inr rfl) rfl (hr0 Tryz.results153) [0] [] [_] [] [] _ rfl rfl (by kernel_rfl) rfl impl_nil (⟨rfl, by rw [G2.fin0 (by omega)], rfl⟩)
   ·replace h6 := of_decide_eq_false h6
    refine c_skip <| e_then <| c_seq ?_
    have G2 := G4
    refine c_reg <| mvi rfl <| cmp _ rfl rfl rfl <| jt <| c_cond rfl (fun h8 => ?_) (fun h8 => ?_)
    ·replace h8 := of_decide_eq_true h8
     refine c_reg <| mvl rfl <| mvi rfl <| addU32 (a := (48 : UInt32)) (b := (UInt32.ofNat w.toNat)) rfl rfl ?_
     have N164 : ((48 : UInt32) + (UInt32.ofNat w.toNat)).toNat = 48 + w.toNat := by have L := G2.lt; rw [show nd = 1 by omega] at L; rw [UInt32.toNat_add, N97]; simp only [UInt32.reduceToNat, Nat.reducePow]; omega
     refine cvNU8 (n := ((48 : UInt32) + (UInt32.ofNat w.toNat)).toNat) rfl uy153 uy5 <| ixa 0 rfl rfl uy93 ty5.sz rfl (by omega) <| stG 0 0 _ (UInt8.ofNat (((48 : UInt32) + (UInt32.ofNat w.toNat)).toNat)) rfl rfl rfl rfl (by first | omega | (simp; done) | (simp; omega) | (simp at *; omega)) ty5 ⟨trivial, ?_⟩
     refine jn ?_
     exact j_end (own0 := [Gseg b E pre ys0 post]) (ro0 := []) (.inr rfl) rfl (hr0 Tryz.results153) [0] [] [_] [] [] _ rfl rfl (by kernel_rfl) rfl impl_nil (⟨rfl, by have L := G2.lt; rw [show nd = 1 by omega] at L; have G1 := FB.one G2 (by omega) (dch_small N164 (by omega)); rw [show nd - 1 = 0 by omega] at G1; rw [G1.fin], rfl⟩)
    ·replace h8 := of_decide_eq_false h8
     refine c_skip ?_
     exact j_end (own0 := [Gseg b E pre ys0 post]) (ro0 := []) (.inr rfl) rfl (hr0 Tryz.results153) [0] [] [_] [] [] _ rfl rfl (by kernel_rfl) rfl impl_nil (⟨rfl, by rw [G2.fin0 (by omega)], rfl⟩)
end Go.Proofs.YtakbbpahfclgnaaGreatDoor
namespace Go.Proofs.YtakbbpahfclgnaaGreatDoor
open Go Go.Proofs Go.PW
open Go.PW.Enc (enc val)
theorem z228 : Zt Tryz.prog 228 (.agg ⟨cat [pt (zarr : (Arr UInt8 65))]⟩) := by unfold Zt; kernel_rfl
theorem z217 : Zt Tryz.prog 217 (.agg ⟨cat [pt (zarr : (Arr UInt8 24))]⟩) := by unfold Zt; kernel_rfl
theorem isPow16_ct  : Ct Tryz.prog 166 [.int .i64 16] [] [] (fun v o r => v = .bool true ∧ o = [] ∧ r = []) := by
 refine ct_enter Tryz.func166 rfl Tryz.ntmps166 (by kernel_rfl) rfl fun w0 => ?_
 refine csr <| agb rfl <| jsr <| mvi rfl <| mvi rfl <| bopI (.int .i64 15) rfl rfl (by kernel_rfl) <| bopI (.int .i64 0) rfl rfl (by kernel_rfl) <| cmp true rfl rfl rfl <| agb rfl <| jt <| c_ret ?_
 exact j_z (own0 := []) (ro0 := []) (.inl rfl) rfl (hr1 Tryz.results166 (rvt (v := (.bool _)) rfl)) rfl (⟨rfl, rfl, rfl⟩)
theorem tz64_16_ct  : Ct Tryz.prog 170 [.int .u64 16] [] [tDb64 11] (fun v o r => v = .int .i64 4 ∧ o = [] ∧ r = []) := by
 refine ct_enter Tryz.func170 rfl Tryz.ntmps170 (by kernel_rfl) rfl fun w0 => ?_
 refine csr <| agi rfl <| jt <| c_seq <| csr <| mvi rfl <| cmp false rfl rfl rfl <| jt <| c_false rfl <| c_skip <| e_then <| csr <| mvi rfl <| mvi rfl <| negC 18446744073709551600 rfl (by kernel_rfl) <| bopI (.int .u64 16) rfl rfl (by kernel_rfl) <| bopI (.int .u64 4573923408821661840) rfl rfl (by kernel_rfl) <| bopI (.int .u64 15) rfl rfl (by kernel_rfl) <| ixaA 15 rfl rfl uy235 ty5.sz rfl (by decide) <| ldvG 0 15 (List.getD dbL 15 (0)) rfl rfl rfl (getD_some (by decide)) ty5 <| cvI ((List.getD dbL 15 (0)).toNat : Int) rfl uy5 uy3 (wI64 (by have := UInt8.toNat_lt (List.getD dbL 15 (0)); omega)) <| agi rfl <| jt <| c_ret ?_
 exact j_z (own0 := []) (ro0 := [tDb64 11]) (.inl rfl) rfl (hr1 Tryz.results170 (rvt (v := (.int _ _)) rfl)) rfl (⟨by kernel_rfl, rfl, rfl⟩)
theorem tz_16_ct  : Ct Tryz.prog 167 [.int .u64 16] [] [tDb64 11] (fun v o r => v = .int .i64 4 ∧ o = [] ∧ r = []) := by
 refine ct_enter Tryz.func167 rfl Tryz.ntmps167 (by kernel_rfl) rfl fun w0 => ?_
 refine csr <| agi rfl <| jt <| c_seq <| c_false rfl <| c_skip <| e_then <| csr <| mvi rfl <| cal tz64_16_ct [] [] [] rfl rfl rfl (by kernel_rfl) (impl_cons (impl_at 0 rfl) impl_nil) rfl ?_; rintro _ _ _ ⟨rfl, rfl, rfl⟩; refine ⟨trivial, ?_⟩
 refine agi rfl <| jt <| c_ret ?_
 exact j_z (own0 := []) (ro0 := [tDb64 11]) (.inl rfl) rfl (hr1 Tryz.results167 (rvt (v := (.int _ _)) rfl)) rfl (⟨rfl, rfl, rfl⟩)
theorem formatBits_ct (u : UInt64) : Ct Tryz.prog 154 [.slice none 0 0, .int .u64 (u.toNat : Int), .int .i64 16, .bool false, .bool false] [] [tDb64 11] (fun v o r => v = .tuple #[.slice none 0 0, strV (fmtN 16 u.toNat)] ∧ o = [] ∧ r = []) := by
 have HU := u.toNat_lt
 refine ct_enter Tryz.func154 rfl Tryz.ntmps154 (by kernel_rfl) rfl fun w0 => ?_
 refine csr <| agl rfl <| ags rfl <| jt <| c_seq <| csr <| mvi rfl <| cmp false rfl rfl rfl <| mvb rfl <| g_on rfl rfl rfl <| mvi rfl <| g_on rfl rfl rfl <| cmp false rfl rfl rfl <| pkf (.bool _) rfl rfl <| mvb rfl <| g_on rfl rfl rfl <| mvi rfl <| g_on rfl rfl rfl <| cmp false rfl rfl rfl <| pkf (.bool _) rfl rfl <| jt <| c_false rfl <| c_skip <| e_then <| csr <| alo [pt (zarr : (Arr UInt8 65))] _ z228 rfl fun b12 => ⟨trivial, ?_⟩
 refine jsr <| agi rfl <| jt <| c_seq <| csr <| mvb rfl <| jt <| c_false rfl <| c_skip <| e_then <| c_seq <| csr <| mvi rfl <| cal isPow16_ct [] [0] [_] rfl rfl rfl (by kernel_rfl) impl_nil rfl ?_; rintro _ _ _ ⟨rfl, rfl, rfl⟩; refine ⟨trivial, ?_⟩
 refine jt <| c_true rfl <| csr <| mvi rfl <| cvI 16 rfl uy3 uy161 (by kernel_rfl) <| cal tz_16_ct [] [0] [_] rfl rfl rfl (by kernel_rfl) (impl_cons (impl_at 0 rfl) impl_nil) rfl ?_; rintro _ _ _ ⟨rfl, rfl, rfl⟩; refine ⟨trivial, ?_⟩
 refine cvI 4 rfl uy3 uy161 (by kernel_rfl) <| agi rfl <| jsr <| mvi rfl <| cvI 16 rfl uy3 uy72 (by kernel_rfl) <| agi rfl <| jsr <| mvi rfl <| cvI 16 rfl uy3 uy161 (by kernel_rfl) <| bopI (.int .u64 15) rfl rfl (by kernel_rfl) <| agi rfl <| jt <| c_seq <| c_block <| c_loop (σ := Nat × Arr UInt8 65 × UInt64) (fun (k, a, w) => FX u.toNat k a w.toNat) (fun (k, a, w) => w.toNat) (fun (k, a, w) => [(13, .int .i64 (65 - (k : Int))), (1, .int .u64 (w.toNat : Int))]) (fun (k, a, w) => [[(b12, .cells (cat [pt a]) 228)]]) (fun (k, a, w) => [tDb64 11]) [1, 13, 44, 45, 46, 47, 48, 49, 50, 51, 52, 53, 54, 55, 56, 57] (0, (zarr : Arr UInt8 65), u) (FX.begin _ _) ⟨by rfl, rfl, trivial⟩ rfl rfl ?_
 rintro ⟨k, a, w⟩ g1 hI1
 try dsimp only at hI1 ⊢
 have HLE := hI1.le
 have HW := w.toNat_lt
 refine c_seq <| csr <| mvi rfl <| mvi rfl <| cmp _ rfl rfl rfl <| jt <| c_cond rfl (fun h1 => ?_) (fun h1 => ?_)
 ·replace h1 := of_decide_eq_true h1
  refine c_skip <| e_then <| c_block <| csr <| mvi rfl <| subi rfl rfl rfl (by omega) <| agi rfl <| jsr <| mvi rfl <| mvi rfl <| mvi rfl <| andU64 (a := w) (b := (15 : UInt64)) rfl rfl <| idxT (s := digitsL) ((w &&& 15).toNat) (by kernel_rfl) rfl uy9 rfl (by rw [fx_and]; show _ < 36; omega) <| ixaA (64 - k) rfl rfl uy228 ty5.sz (by omega) (by omega) <| sta 0 0 _ a (64 - k) (List.getD digitsL ((w &&& 15).toNat) 0) rfl rfl rfl rfl rfl (by omega) ty5 ⟨trivial, ?_⟩
  refine jr <| mvi rfl <| mvi rfl <| shrRU64 (a := w) 4 rfl rfl rfl <| agi rfl <| jn <| e_in ?_
  exact e_loop (k + 1, (Arr.set a (64 - k) (List.getD digitsL ((w &&& 15).toNat) 0)), (shrU64 w 4)) (by rw [show (shrU64 w 4).toNat = w.toNat / 16 from shrU64_toNat w 4]; exact FX.step hI1 HU (by omega) (by rw [digitsL_at _ (by rw [fx_and]; omega), fx_and])) (by show (shrU64 w 4).toNat < w.toNat; rw [shrU64_toNat]; omega) (⟨congrArg (Value.int _) (by omega), rfl, trivial⟩) rfl rfl rfl
 ·replace h1 := of_decide_eq_false h1
  refine c_exit rfl <| e_then <| csr <| mvi rfl <| subi rfl rfl rfl (by omega) <| agi rfl <| jr <| mvi rfl <| mvi rfl <| idxT (s := digitsL) w.toNat (by kernel_rfl) rfl uy9 rfl (by show _ < 36; omega) <| ixaA (64 - k) rfl rfl uy228 ty5.sz (by omega) (by omega) <| sta 0 0 _ a (64 - k) (List.getD digitsL w.toNat 0) rfl rfl rfl rfl rfl (by omega) ty5 ⟨trivial, ?_⟩
  refine jt <| c_seq <| csr <| mvb rfl <| jt <| c_false rfl <| c_skip <| e_then <| c_seq <| csr <| mvb rfl <| jt <| c_false rfl <| c_skip <| e_then <| csr <| mvi rfl <| slaA (64 - k) 65 rfl uy228 ty5.sz ⟨_, congrArg (Value.int _) (by omega)⟩ rfl (by first | omega | (simp; done) | (simp; omega) | (simp at *; omega)) (by first | omega | (simp; done) | (simp; omega) | (simp at *; omega)) (by first | omega | (simp; done) | (simp; omega) | (simp at *; omega)) <| cvA (l := (64 - k)) (Arr.set a (64 - k) (List.getD digitsL w.toNat 0)) (65 - (64 - k)) 0 0 rfl (by first | omega | (simp; done) | (simp; omega) | (simp at *; omega)) rfl rfl rfl (by first | omega | (simp; done) | (simp; omega) | (simp at *; omega)) uy93 uy9 uy5 <| ags rfl <| jt <| c_ret ?_
  exact j_d (own0 := []) (ro0 := [tDb64 11]) (.inl rfl) rfl (hr2 Tryz.results154 (rvt (v := (.slice _ _ _)) rfl) (rvt (v := (.string _)) rfl)) [0] [_] rfl (by kernel_rfl) rfl (⟨by rw [FX.fin hI1 (by omega) (digitsL_at _ (by omega))], rfl, rfl⟩)
theorem FormatUint10_ct (u : UInt64) : Ct Tryz.prog 134 [.int .u64 (u.toNat : Int), .int .i64 10] [] [tPow10 9] (fun v o r => v = strV (fmtN 10 u.toNat) ∧ o = [] ∧ r = []) := by
 have HU := u.toNat_lt
 refine ct_enter Tryz.func134 rfl Tryz.ntmps134 (by kernel_rfl) rfl fun w0 => ?_
 refine csr <| ags rfl <| jt <| c_seq <| csr <| mvi rfl <| cmp true rfl rfl rfl <| jt <| c_true rfl <| c_seq <| csr <| mvi rfl <| cmp _ rfl rfl rfl <| jt <| c_cond rfl (fun h1 => ?_) (fun h1 => ?_)
 ·replace h1 := of_decide_eq_true h1
  refine csr <| mvi rfl <| cvI (u.toNat : Int) rfl uy72 uy3 (wI64 (by omega)) <| cal (small_ct u.toNat (by omega)) [] [] [] rfl rfl rfl (by kernel_rfl) impl_nil rfl ?_; rintro _ _ _ ⟨rfl, rfl, rfl⟩; refine ⟨trivial, ?_⟩
  refine ags rfl <| jt <| c_ret ?_
  exact j_z (own0 := []) (ro0 := [tPow10 9]) (.inl rfl) rfl (hr1 Tryz.results134 (rvt (v := (.string _)) rfl)) rfl (⟨rfl, rfl, rfl⟩)
 ·replace h1 := of_decide_eq_false h1
  refine c_skip <| e_then <| csr <| alo [pt (zarr : (Arr UInt8 24))] _ z217 rfl fun b5 => ⟨trivial, ?_⟩
  refine jsr <| mvi rfl <| cal (numDigits_ct u (by omega)) [] [0] [_] rfl rfl rfl (by kernel_rfl) (impl_cons (impl_at 0 rfl) impl_nil) rfl ?_; rintro _ _ _ ⟨rfl, rfl, rfl⟩; refine ⟨trivial, ?_⟩
  refine agi rfl <| jt <| c_seq ?_
  have HND := nd_20 (u := u) (by omega)
  have HLT := nd_lt (u := u)
  refine c_part (own' := [Gseg b5 217 ([]) (List.take (ndg 10 64 u.toNat) (zarr : Arr UInt8 24).l) (encs (List.drop (ndg 10 64 u.toNat) (zarr : Arr UInt8 24).l))]) (by rw [gr_of0 b5 217 (zarr : Arr UInt8 24) (ndg 10 64 u.toNat) (by omega)]; exact List.Perm.refl _) <| c_reg <| mvi rfl <| slaA 0 (ndg 10 64 u.toNat) rfl uy217 ty5.sz rfl ⟨_, rfl⟩ (by first | omega | (simp; done) | (simp; omega) | (simp at *; omega)) (by first | omega | (simp; done) | (simp; omega) | (simp at *; omega)) (by first | omega | (simp; done) | (simp; omega) | (simp at *; omega)) <| mvi rfl <| cal (formatBase10_ct b5 217 _ (ndg 10 64 u.toNat) ([]) (encs (List.drop (ndg 10 64 u.toNat) (zarr : Arr UInt8 24).l)) (List.take (ndg 10 64 u.toNat) (zarr : Arr UInt8 24).l) u (gr_len0 _ _ (by omega)) (by omega) HLT) [0] [] [] rfl (hx_cons rfl (hx_len (gr_len0 _ _ (by omega)).symm) rfl) rfl (by kernel_rfl) impl_nil rfl ?_; rintro _ _ _ ⟨rfl, rfl, rfl⟩; refine ⟨trivial, ?_⟩
  refine jsr <| mvi rfl <| slaA 0 (ndg 10 64 u.toNat) rfl uy217 ty5.sz rfl ⟨_, rfl⟩ (by first | omega | (simp; done) | (simp; omega) | (simp at *; omega)) (by first | omega | (simp; done) | (simp; omega) | (simp at *; omega)) (by first | omega | (simp; done) | (simp; omega) | (simp at *; omega)) <| cvG (ys := (digs 10 (ndg 10 64 u.toNat) u.toNat)) 0 rfl (by rw [digs_length]; omega) rfl rfl uy93 uy9 uy5 <| ags rfl <| jt <| c_ret ?_
  exact j_d (own0 := []) (ro0 := [tPow10 9]) (.inl rfl) rfl (hr1 Tryz.results134 (rvt (v := (.string _)) rfl)) [0] [_] rfl (by kernel_rfl) rfl (⟨rfl, rfl, rfl⟩)
theorem FormatUint16_ct (u : UInt64) : Ct Tryz.prog 134 [.int .u64 (u.toNat : Int), .int .i64 16] [] [tDb64 11] (fun v o r => v = strV (fmtN 16 u.toNat) ∧ o = [] ∧ r = []) := by
 have HU := u.toNat_lt
 refine ct_enter Tryz.func134 rfl Tryz.ntmps134 (by kernel_rfl) rfl fun w0 => ?_
 refine csr <| ags rfl <| jt <| c_seq <| csr <| mvi rfl <| cmp false rfl rfl rfl <| jt <| c_false rfl <| c_skip <| e_then <| csr <| mvi rfl <| mvi rfl <| cal (formatBits_ct u) [] [] [] rfl rfl rfl (by kernel_rfl) (impl_cons (impl_at 0 rfl) impl_nil) rfl ?_; rintro _ _ _ ⟨rfl, rfl, rfl⟩; refine ⟨trivial, ?_⟩
 refine mv (.tuple _) rfl <| xtr (.slice _ _ _) rfl rfl <| xtr (.string _) rfl rfl <| agl rfl <| ags rfl <| jsr <| mvs rfl <| ags rfl <| jt <| c_ret ?_
 exact j_z (own0 := []) (ro0 := [tDb64 11]) (.inl rfl) rfl (hr1 Tryz.results134 (rvt (v := (.string _)) rfl)) rfl (⟨rfl, rfl, rfl⟩)
theorem sFormatUint10_ct (u : UInt64) : Ct Tryz.prog 108 [.int .u64 (u.toNat : Int), .int .i64 10] [] [tPow10 9] (fun v o r => v = strV (fmtN 10 u.toNat) ∧ o = [] ∧ r = []) := by
 refine ct_enter Tryz.func108 rfl Tryz.ntmps108 (by kernel_rfl) rfl fun w0 => ?_
 refine csr <| ags rfl <| jsr <| mvi rfl <| mvi rfl <| cal (FormatUint10_ct u) [] [] [] rfl rfl rfl (by kernel_rfl) (impl_cons (impl_at 0 rfl) impl_nil) rfl ?_; rintro _ _ _ ⟨rfl, rfl, rfl⟩; refine ⟨trivial, ?_⟩
 refine ags rfl <| jt <| c_ret ?_
 exact j_z (own0 := []) (ro0 := [tPow10 9]) (.inl rfl) rfl (hr1 Tryz.results108 (rvt (v := (.string _)) rfl)) rfl (⟨rfl, rfl, rfl⟩)
theorem sFormatUint16_ct (u : UInt64) : Ct Tryz.prog 108 [.int .u64 (u.toNat : Int), .int .i64 16] [] [tDb64 11] (fun v o r => v = strV (fmtN 16 u.toNat) ∧ o = [] ∧ r = []) := by
 refine ct_enter Tryz.func108 rfl Tryz.ntmps108 (by kernel_rfl) rfl fun w0 => ?_
 refine csr <| ags rfl <| jsr <| mvi rfl <| mvi rfl <| cal (FormatUint16_ct u) [] [] [] rfl rfl rfl (by kernel_rfl) (impl_cons (impl_at 0 rfl) impl_nil) rfl ?_; rintro _ _ _ ⟨rfl, rfl, rfl⟩; refine ⟨trivial, ?_⟩
 refine ags rfl <| jt <| c_ret ?_
 exact j_z (own0 := []) (ro0 := [tDb64 11]) (.inl rfl) rfl (hr1 Tryz.results108 (rvt (v := (.string _)) rfl)) rfl (⟨rfl, rfl, rfl⟩)
theorem FormatInt16_ct (n : Nat) (hn : n < 9223372036854775808) : Ct Tryz.prog 158 [.int .i64 (n : Int), .int .i64 16] [] [tDb64 11] (fun v o r => v = strV (fmtN 16 n) ∧ o = [] ∧ r = []) := by
 refine ct_enter Tryz.func158 rfl Tryz.ntmps158 (by kernel_rfl) rfl fun w0 => ?_
 refine csr <| ags rfl <| jt <| c_seq <| csr <| mvi rfl <| cmp false rfl rfl rfl <| jt <| c_false rfl <| c_skip <| e_then <| csr <| mvi rfl <| cvNU64 (n := n) rfl uy2 uy72 <| mvi rfl <| mvi rfl <| cmp false rfl rfl (by simp [cmpV]) <| cal (formatBits_ct (UInt64.ofNat n)) [] [] [] rfl rfl rfl (by kernel_rfl) (impl_cons (impl_at 0 rfl) impl_nil) rfl ?_; rintro _ _ _ ⟨rfl, rfl, rfl⟩; refine ⟨trivial, ?_⟩
 refine mv (.tuple _) rfl <| xtr (.slice _ _ _) rfl rfl <| xtr (.string _) rfl rfl <| agl rfl <| ags rfl <| jsr <| mvs rfl <| ags rfl <| jt <| c_ret ?_
 exact j_z (own0 := []) (ro0 := [tDb64 11]) (.inl rfl) rfl (hr1 Tryz.results158 (rvt (v := (.string _)) rfl)) rfl (⟨by rw [UInt64.toNat_ofNat', Nat.mod_eq_of_lt (by omega)], rfl, rfl⟩)
theorem sFormatInt16_ct (n : Nat) (hn : n < 9223372036854775808) : Ct Tryz.prog 142 [.int .i64 (n : Int), .int .i64 16] [] [tDb64 11] (fun v o r => v = strV (fmtN 16 n) ∧ o = [] ∧ r = []) := by
 refine ct_enter Tryz.func142 rfl Tryz.ntmps142 (by kernel_rfl) rfl fun w0 => ?_
 refine csr <| ags rfl <| jsr <| mvi rfl <| mvi rfl <| cal (FormatInt16_ct n hn) [] [] [] rfl rfl rfl (by kernel_rfl) (impl_cons (impl_at 0 rfl) impl_nil) rfl ?_; rintro _ _ _ ⟨rfl, rfl, rfl⟩; refine ⟨trivial, ?_⟩
 refine ags rfl <| jt <| c_ret ?_
 exact j_z (own0 := []) (ro0 := [tDb64 11]) (.inl rfl) rfl (hr1 Tryz.results142 (rvt (v := (.string _)) rfl)) rfl (⟨rfl, rfl, rfl⟩)
end Go.Proofs.YtakbbpahfclgnaaGreatDoor
namespace Go.Proofs.YtakbbpahfclgnaaGreatDoor
open Go Go.Proofs Go.PW
open Go.PW.Enc (enc val)
theorem ty191 : Ty Tryz.prog 191 1 false := ⟨by kernel_rfl, by kernel_rfl⟩
theorem ty193 : Ty Tryz.prog 193 2 true := ⟨by kernel_rfl, by kernel_rfl⟩
theorem ty93 : Ty Tryz.prog 93 1 false := ⟨by kernel_rfl, by kernel_rfl⟩
theorem z5 : Zt Tryz.prog 5 ((pt (0 : UInt8)).v) := by unfold Zt; kernel_rfl
theorem by5 : (Tryz.prog.info? 5).map (·.bytes) = some 1 := by kernel_rfl
theorem copyCheck0_ct (b : Nat) (ad : Option Addr) (n c : Nat) : Ct Tryz.prog 139 [.pointer (some ⟨b, 0, none⟩)] [[(b, .cells (cat [p1 (.pointer none), p1 (.slice ad n c)]) 193)]] [] (fun v o r => v = .tuple #[] ∧ o = [[(b, .cells (cat [p1 (.pointer (some ⟨b, 0, none⟩)), p1 (.slice ad n c)]) 193)]] ∧ r = []) := by
 refine ct_enter Tryz.func139 rfl Tryz.ntmps139 (by kernel_rfl) rfl fun w0 => ?_
 refine csr <| mvp rfl <| nlc rfl <| fad rfl uy193 rfl ty191.sz <| ldp 0 0 _ rfl rfl rfl rfl ty191 <| eqpn true rfl rfl uy191 rfl <| jt <| c_true rfl <| c_reg <| mvp rfl <| mvp rfl <| cvPU 0 rfl rfl (by simp [cat, p1]) uy191 uy80 ty193.sz <| xcal (args := [.pointer (some ⟨b, 0, none⟩)]) (.pointer (some ⟨b, 0, none⟩)) Tryz.func156 (by kernel_rfl) (by kernel_rfl) (by kernel_rfl) (fun w => rfl) (by kernel_rfl) rfl <| cvUP 0 rfl rfl uy80 uy191 (by kernel_rfl) (by kernel_rfl) <| nlc rfl <| fad rfl uy193 rfl ty191.sz <| stp 0 0 _ (p1 (.pointer (some ⟨b, 0, none⟩))) rfl rfl rfl rfl rfl rfl ty191 ⟨trivial, ?_⟩
 refine jn ?_
 exact j_end (own0 := [[(b, .cells (cat [p1 (.pointer none), p1 (.slice ad n c)]) 193)]]) (ro0 := []) (.inr rfl) rfl (hr0 Tryz.results139) [0] [] [_] [] [] _ rfl rfl (by kernel_rfl) rfl impl_nil (⟨rfl, rfl, rfl⟩)
theorem copyCheck1_ct (b : Nat) (ad : Option Addr) (n c : Nat) : Ct Tryz.prog 139 [.pointer (some ⟨b, 0, none⟩)] [[(b, .cells (cat [p1 (.pointer (some ⟨b, 0, none⟩)), p1 (.slice ad n c)]) 193)]] [] (fun v o r => v = .tuple #[] ∧ o = [[(b, .cells (cat [p1 (.pointer (some ⟨b, 0, none⟩)), p1 (.slice ad n c)]) 193)]] ∧ r = []) := by
 refine ct_enter Tryz.func139 rfl Tryz.ntmps139 (by kernel_rfl) rfl fun w0 => ?_
 refine csr <| mvp rfl <| nlc rfl <| fad rfl uy193 rfl ty191.sz <| ldp 0 0 _ rfl rfl rfl rfl ty191 <| eqpn false rfl rfl uy191 rfl <| jt <| c_false rfl <| csr <| mvp rfl <| nlc rfl <| fad rfl uy193 rfl ty191.sz <| ldp 0 0 _ rfl rfl rfl rfl ty191 <| mvp rfl <| eqps false rfl rfl uy191 (by kernel_rfl) rfl <| jt <| c_false rfl <| c_skip ?_
 exact j_end (own0 := [[(b, .cells (cat [p1 (.pointer (some ⟨b, 0, none⟩)), p1 (.slice ad n c)]) 193)]]) (ro0 := []) (.inr rfl) rfl (hr0 Tryz.results139) [0] [] [_] [] [] _ rfl rfl (by kernel_rfl) rfl impl_nil (⟨rfl, rfl, rfl⟩)
theorem copyCheck_ct (b : Nat) (a : Option Addr) (ha : a = none ∨ a = (some ⟨b, 0, none⟩)) (ad : Option Addr) (n c : Nat) : Ct Tryz.prog 139 [.pointer (some ⟨b, 0, none⟩)] [[(b, .cells (cat [p1 (.pointer a), p1 (.slice ad n c)]) 193)]] [] (fun v o r => v = .tuple #[] ∧ o = [[(b, .cells (cat [p1 (.pointer (some ⟨b, 0, none⟩)), p1 (.slice ad n c)]) 193)]] ∧ r = []) := by
  rcases ha with rfl | rfl
  · exact copyCheck0_ct b ad n c
  · exact copyCheck1_ct b ad n c
end Go.Proofs.YtakbbpahfclgnaaGreatDoor
namespace Go.PW
open Go
structure U1 (t : Str) : Prop where
  k : u8step t = 1
  a : (List.getD t 0 0).toNat < 128
structure U2 (t : Str) : Prop where
  k : u8step t = 2
  a : 194 ≤ (List.getD t 0 0).toNat ∧ (List.getD t 0 0).toNat < 224
  b : 128 ≤ (List.getD t 1 0).toNat ∧ (List.getD t 1 0).toNat < 192
structure U3 (t : Str) : Prop where
  k : u8step t = 3
  a : 224 ≤ (List.getD t 0 0).toNat ∧ (List.getD t 0 0).toNat < 240
  b : 128 ≤ (List.getD t 1 0).toNat ∧ (List.getD t 1 0).toNat < 192
  c : 128 ≤ (List.getD t 2 0).toNat ∧ (List.getD t 2 0).toNat < 192
  lo : (List.getD t 0 0).toNat = 224 → 160 ≤ (List.getD t 1 0).toNat
  hi : (List.getD t 0 0).toNat = 237 → (List.getD t 1 0).toNat < 160
structure U4 (t : Str) : Prop where
  k : u8step t = 4
  a : 240 ≤ (List.getD t 0 0).toNat ∧ (List.getD t 0 0).toNat < 245
  b : 128 ≤ (List.getD t 1 0).toNat ∧ (List.getD t 1 0).toNat < 192
  c : 128 ≤ (List.getD t 2 0).toNat ∧ (List.getD t 2 0).toNat < 192
  d : 128 ≤ (List.getD t 3 0).toNat ∧ (List.getD t 3 0).toNat < 192
  lo : (List.getD t 0 0).toNat = 240 → 144 ≤ (List.getD t 1 0).toNat
  hi : (List.getD t 0 0).toNat = 244 → (List.getD t 1 0).toNat < 144
theorem u8_cases {t : Str} (h : u8step t ≠ 0) : U1 t ∨ U2 t ∨ U3 t ∨ U4 t := by
  unfold u8step at h
  by_cases h1 : bt t 0 < 128
  · exact .inl ⟨by unfold u8step; rw [if_pos h1], h1⟩
  rw [if_neg h1] at h
  by_cases h2 : bt t 0 < 194
  · rw [if_pos h2] at h; exact absurd rfl h
  rw [if_neg h2] at h
  by_cases h3 : bt t 0 < 224
  · rw [if_pos h3] at h
    by_cases hc : cont (bt t 1) = true
    · refine .inr (.inl ⟨by unfold u8step; rw [if_neg h1, if_neg h2, if_pos h3, if_pos hc], ⟨Nat.le_of_not_lt h2, h3⟩, ?_⟩)
      simp only [cont, Bool.and_eq_true, decide_eq_true_eq] at hc
      exact hc
    · rw [if_neg hc] at h; exact absurd rfl h
  rw [if_neg h3] at h
  by_cases h4 : bt t 0 < 240
  · rw [if_pos h4] at h
    by_cases hc : (cont (bt t 1) && cont (bt t 2) && decide (bt t 0 = 224 → 160 ≤ bt t 1) && decide (bt t 0 = 237 → bt t 1 < 160)) = true
    · refine .inr (.inr (.inl ?_))
      have hk : u8step t = 3 := by unfold u8step; rw [if_neg h1, if_neg h2, if_neg h3, if_pos h4, if_pos hc]
      simp only [cont, Bool.and_eq_true, decide_eq_true_eq] at hc
      exact ⟨hk, ⟨Nat.le_of_not_lt h3, h4⟩, hc.1.1.1, hc.1.1.2, hc.1.2, hc.2⟩
    · rw [if_neg hc] at h; exact absurd rfl h
  rw [if_neg h4] at h
  by_cases h5 : bt t 0 < 245
  · rw [if_pos h5] at h
    by_cases hc : (cont (bt t 1) && cont (bt t 2) && cont (bt t 3) && decide (bt t 0 = 240 → 144 ≤ bt t 1) && decide (bt t 0 = 244 → bt t 1 < 144)) = true
    · refine .inr (.inr (.inr ?_))
      have hk : u8step t = 4 := by unfold u8step; rw [if_neg h1, if_neg h2, if_neg h3, if_neg h4, if_pos h5, if_pos hc]
      simp only [cont, Bool.and_eq_true, decide_eq_true_eq] at hc
      exact ⟨hk, ⟨Nat.le_of_not_lt h4, h5⟩, hc.1.1.1.1, hc.1.1.1.2, hc.1.1.2, hc.1.2, hc.2⟩
    · rw [if_neg hc] at h; exact absurd rfl h
  · rw [if_neg h5] at h; exact absurd rfl h
theorem getD_in {t : Str} {i : Nat} (h : 0 < (List.getD t i 0).toNat) : i < t.length := Nat.lt_of_not_le fun hn => by
  have := bt_out hn
  have h2 : bt t i = (List.getD t i 0).toNat := rfl
  omega
theorem u8step_le {t : Str} (h : u8step t ≠ 0) (hl : 0 < t.length) : 1 ≤ u8step t ∧ u8step t ≤ t.length ∧ u8step t ≤ 4 := by
  rcases u8_cases h with c | c | c | c
  · have := c.k; omega
  · have := c.k; have := c.b; have := getD_in (t := t) (i := 1) (by omega); omega
  · have := c.k; have := c.c; have := getD_in (t := t) (i := 2) (by omega); omega
  · have := c.k; have := c.d; have := getD_in (t := t) (i := 3) (by omega); omega
theorem u8ok_step {t : Str} (h : u8ok t = true) (hl : 0 < t.length) : u8step t ≠ 0 := fun h0 => by
  rw [u8ok_bad hl h0] at h; cases h
theorem u8ok_rest {t : Str} (h : u8ok t = true) (hl : 0 < t.length) : u8ok (t.drop (u8step t)) = true := by
  have h1 := u8ok_step h hl
  have h2 := u8step_le h1 hl
  rw [u8ok_go (u8step t) hl rfl (by omega)]; exact h
def chr (t : Str) : Nat :=
  if (List.getD t 0 0).toNat < 128 then (List.getD t 0 0).toNat
  else if (List.getD t 0 0).toNat < 224 then (List.getD t 0 0).toNat % 32 * 64 + (List.getD t 1 0).toNat % 64
  else if (List.getD t 0 0).toNat < 240 then ((List.getD t 0 0).toNat % 16 * 64 + (List.getD t 1 0).toNat % 64) * 64 + (List.getD t 2 0).toNat % 64
  else (((List.getD t 0 0).toNat % 8 * 64 + (List.getD t 1 0).toNat % 64) * 64 + (List.getD t 2 0).toNat % 64) * 64 + (List.getD t 3 0).toNat % 64
theorem U1.chr {t : Str} (c : U1 t) : chr t = (List.getD t 0 0).toNat := by unfold PW.chr; rw [if_pos c.a]
theorem U2.chr {t : Str} (c : U2 t) : chr t = (List.getD t 0 0).toNat % 32 * 64 + (List.getD t 1 0).toNat % 64 := by
  have := c.a
  unfold PW.chr; rw [if_neg (by omega), if_pos (by omega)]
theorem U3.chr {t : Str} (c : U3 t) : chr t = ((List.getD t 0 0).toNat % 16 * 64 + (List.getD t 1 0).toNat % 64) * 64 + (List.getD t 2 0).toNat % 64 := by
  have := c.a
  unfold PW.chr; rw [if_neg (by omega), if_neg (by omega), if_pos (by omega)]
theorem U4.chr {t : Str} (c : U4 t) : chr t = (((List.getD t 0 0).toNat % 8 * 64 + (List.getD t 1 0).toNat % 64) * 64 + (List.getD t 2 0).toNat % 64) * 64 + (List.getD t 3 0).toNat % 64 := by
  have := c.a
  unfold PW.chr; rw [if_neg (by omega), if_neg (by omega), if_neg (by omega)]
theorem chr_lt (t : Str) : chr t < 2097152 := by
  have := bt_lt t 0
  unfold chr
  repeat' split
  all_goals omega
theorem chr_asc {t : Str} (h : u8step t ≠ 0) (hc : chr t < 128) : u8step t = 1 ∧ (List.getD t 0 0).toNat = chr t := by
  rcases u8_cases h with c | c | c | c
  · exact ⟨c.k, c.chr.symm⟩
  · have := c.chr; have := c.a; have := c.b; omega
  · have := c.chr; have := c.a; have := c.b; have := c.lo; omega
  · have := c.chr; have := c.a; have := c.b; have := c.lo; omega
theorem chr_take {t : Str} (h : u8step t ≠ 0) (hl : 0 < t.length) (hc : chr t < 128) : t.take 1 = [UInt8.ofNat (chr t)] := by
  obtain ⟨_, h2⟩ := chr_asc h hc
  cases t with
  | nil => simp at hl
  | cons a r =>
    rw [← h2]
    simp
def qstep (c : Nat) : Str := if c = 34 ∨ c = 92 then [92, UInt8.ofNat c] else if 32 ≤ c ∧ c ≤ 126 then [UInt8.ofNat c] else [92, 117, 123] ++ fmtN 16 c ++ [125]
theorem qstep_q {c : Nat} (h : c = 34 ∨ c = 92) : qstep c = [92, UInt8.ofNat c] := if_pos h
theorem qstep_p {c : Nat} (h : ¬(c = 34 ∨ c = 92)) (h2 : 32 ≤ c ∧ c ≤ 126) : qstep c = [UInt8.ofNat c] := by unfold qstep; rw [if_neg h, if_pos h2]
theorem qstep_u {c : Nat} (h : ¬(c = 34 ∨ c = 92)) (h2 : ¬(32 ≤ c ∧ c ≤ 126)) : qstep c = [92, 117, 123] ++ fmtN 16 c ++ [125] := by unfold qstep; rw [if_neg h, if_neg h2]
def qbody (t : Str) : Str :=
  if t.length = 0 then []
  else if u8step t = 0 then []
  else qstep (chr t) ++ qbody (t.drop (u8step t))
termination_by t.length
decreasing_by simp; omega
theorem qbody_nil {t : Str} (h : t.length = 0) : qbody t = [] := by rw [qbody, if_pos h]
theorem qbody_go {t : Str} (h : u8step t ≠ 0) (hl : 0 < t.length) : qbody t = qstep (chr t) ++ qbody (t.drop (u8step t)) := by
  rw [qbody, if_neg (by omega), if_neg h]
def quoteS (s : Str) : Str := [34] ++ qbody s ++ [34]
theorem ndg_bound {b : Nat} (hb : 2 ≤ b) : ∀ {f k n : Nat}, 1 ≤ k → n < b ^ k → ndg b f n ≤ k
  | 0, k, n, h1, _ => by simpa [ndg] using h1
  | f + 1, k, n, h1, h2 => by
    unfold ndg
    by_cases hn : n < b
    · rw [if_pos hn]; exact h1
    · rw [if_neg hn]
      obtain ⟨j, rfl⟩ : ∃ j, k = j + 1 := ⟨k - 1, by omega⟩
      have hj : 1 ≤ j := by
        rcases Nat.eq_zero_or_pos j with h | h
        · subst h; simp at h2; omega
        · exact h
      have := ndg_bound hb (f := f) hj (show n / b < b ^ j by rw [Nat.div_lt_iff_lt_mul (by omega), ← Nat.pow_succ]; exact h2)
      omega
def padN (k : Nat) (s : Str) : Str := List.replicate (k - s.length) 48 ++ s
theorem pad_done {k : Nat} {s : Str} (h : k ≤ s.length) : padN k s = s := by unfold padN; rw [Nat.sub_eq_zero_of_le h]; rfl
theorem pad_step {k : Nat} {s : Str} (h : s.length < k) : padN k ([48] ++ s) = padN k s := by
  unfold padN
  rw [show k - s.length = (k - ([48] ++ s).length) + 1 by simp; omega, List.replicate_succ']
  simp
theorem pad_length {k : Nat} {s : Str} : (padN k s).length = max k s.length := by unfold padN; simp; omega
theorem pad_one (b n : Nat) : padN 1 (fmtN b n) = fmtN b n := pad_done (fmtN_length b n).1
def pfx (s p : Str) : Bool := decide (p.length ≤ s.length) && decide (s.take p.length = p)
end Go.PW
namespace Go.Proofs.YtakbbpahfclgnaaGreatDoor
open Go Go.Proofs Go.PW
open Go.PW.Enc (enc val)
theorem slHasPrefix_ct (s p : Str) (hs : s.length ≤ 9223372036854775807) (hp : p.length ≤ 9223372036854775807) : Ct Tryz.prog 157 [strV s, strV p] [] [] (fun v o r => v = .bool (pfx s p) ∧ o = [] ∧ r = []) := by
 refine ct_enter Tryz.func157 rfl Tryz.ntmps157 (by kernel_rfl) rfl fun w0 => ?_
 refine csr <| agb rfl <| jsr <| mvs rfl <| lenT (s := s) rfl uy9 <| mvs rfl <| lenT (s := p) rfl uy9 <| cmp _ rfl rfl rfl <| mvb rfl <| jsplit 10 rfl (fun h1 => ?_) (fun h1 => ?_)
 ·replace h1 := of_decide_eq_true h1
  refine g_on rfl rfl rfl <| mvs rfl <| g_on rfl rfl rfl <| mvs rfl <| g_on rfl rfl rfl <| lenT (s := p) rfl uy9 <| g_on rfl rfl rfl <| cutT (s := s) 0 p.length rfl uy9 rfl ⟨_, rfl⟩ (by first | omega | (simp; done) | (simp; omega)) (by first | omega | (simp; done) | (simp; omega)) (List.take p.length s) (cut_lo _ _) <| g_on rfl rfl rfl <| mvs rfl <| g_on rfl rfl rfl <| scmp (a := (List.take p.length s)) (b := p) _ rfl rfl uy9 rfl <| pkt (.bool _) rfl rfl <| agb rfl <| jt <| c_ret ?_
  exact j_z (own0 := []) (ro0 := []) (.inl rfl) rfl (hr1 Tryz.results157 (rvt (v := (.bool _)) rfl)) rfl (⟨by unfold pfx; rw [decide_eq_true (show p.length ≤ s.length by omega)]; simp, rfl, rfl⟩)
 ·replace h1 := of_decide_eq_false h1
  refine g_off rfl rfl rfl rfl <| g_off rfl rfl rfl rfl <| g_off rfl rfl rfl rfl <| g_off rfl rfl rfl rfl <| g_off rfl rfl rfl rfl <| g_off rfl rfl rfl rfl <| pkf (.bool _) rfl rfl <| agb rfl <| jt <| c_ret ?_
  exact j_z (own0 := []) (ro0 := []) (.inl rfl) rfl (hr1 Tryz.results157 (rvt (v := (.bool _)) rfl)) rfl (⟨by unfold pfx; rw [decide_eq_false (show ¬ p.length ≤ s.length by omega)]; rfl, rfl, rfl⟩)
theorem sHasPrefix_ct (s p : Str) (hs : s.length ≤ 9223372036854775807) (hp : p.length ≤ 9223372036854775807) : Ct Tryz.prog 140 [strV s, strV p] [] [] (fun v o r => v = .bool (pfx s p) ∧ o = [] ∧ r = []) := by
 refine ct_enter Tryz.func140 rfl Tryz.ntmps140 (by kernel_rfl) rfl fun w0 => ?_
 refine csr <| agb rfl <| jsr <| mvs rfl <| mvs rfl <| cal (slHasPrefix_ct s p hs hp) [] [] [] rfl rfl rfl (by kernel_rfl) impl_nil rfl ?_; rintro _ _ _ ⟨rfl, rfl, rfl⟩; refine ⟨trivial, ?_⟩
 refine agb rfl <| jt <| c_ret ?_
 exact j_z (own0 := []) (ro0 := []) (.inl rfl) rfl (hr1 Tryz.results140 (rvt (v := (.bool _)) rfl)) rfl (⟨rfl, rfl, rfl⟩)
end Go.Proofs.YtakbbpahfclgnaaGreatDoor
namespace Go.Proofs.YtakbbpahfclgnaaGreatDoor
open Go Go.Proofs Go.PW
open Go.PW.Enc (enc val)
theorem character_ct (t : Str) (hs : u8step t ≠ 0) (hl : 0 < t.length) : Ct Tryz.prog 136 [strV t] [] [] (fun v o r => v = .tuple #[.int .i64 (chr t : Int), .int .i64 (u8step t : Int)] ∧ o = [] ∧ r = []) := by
 refine ct_enter Tryz.func136 rfl Tryz.ntmps136 (by kernel_rfl) rfl fun w0 => ?_
 refine csr <| agi rfl <| agi rfl <| jsr <| mvs rfl <| idxT (s := t) 0 rfl rfl uy9 rfl hl <| cvI ((List.getD t 0 0).toNat : Int) rfl uy5 uy3 (wI64 (by have := UInt8.toNat_lt (List.getD t 0 0); omega)) <| agi rfl <| jsr <| agi rfl <| jt <| c_seq <| csr <| mvi rfl <| cmp _ rfl rfl rfl <| jt <| c_cond rfl (fun h1 => ?_) (fun h1 => ?_)
 ·replace h1 := of_decide_eq_true h1
  refine c_reg <| mvi rfl <| remn (a := (List.getD t 0 0).toNat) (b := 8) rfl rfl (by decide) <| agi rfl <| agi rfl <| jt <| c_seq <| c_seq ?_
  have HB0 := UInt8.toNat_lt (List.getD t 0 0)
  have HC : chr t = (((((List.getD t 0 0).toNat % 8)) * 64 + (List.getD t 1 0).toNat % 64) * 64 + (List.getD t 2 0).toNat % 64) * 64 + (List.getD t 3 0).toNat % 64 ∧ u8step t = 4 := by rcases u8_cases hs with c | c | c | c <;> first | exact ⟨c.chr, c.k⟩ | (have := c.a; omega)
  have HLN : 4 ≤ t.length := by have := u8step_le hs hl; have := HC.2; omega
  refine c_reg <| agi rfl <| jt <| c_block <| c_loop (σ := Nat × Nat) (fun (i, c) => (i = 1 ∧ c = ((List.getD t 0 0).toNat % 8)) ∨ (i = 2 ∧ c = (((List.getD t 0 0).toNat % 8)) * 64 + (List.getD t 1 0).toNat % 64) ∨ (i = 3 ∧ c = ((((List.getD t 0 0).toNat % 8)) * 64 + (List.getD t 1 0).toNat % 64) * 64 + (List.getD t 2 0).toNat % 64) ∨ (i = 4 ∧ c = (((((List.getD t 0 0).toNat % 8)) * 64 + (List.getD t 1 0).toNat % 64) * 64 + (List.getD t 2 0).toNat % 64) * 64 + (List.getD t 3 0).toNat % 64)) (fun (i, c) => 4 - i) (fun (i, c) => [(6, .int .i64 (i : Int)), (4, .int .i64 (c : Int))]) (fun (i, c) => []) (fun (i, c) => []) [4, 6, 22, 23, 24, 25, 26, 27, 28, 29, 30, 31, 32, 33, 34] (1, ((List.getD t 0 0).toNat % 8)) (by simp) ⟨rfl, rfl, trivial⟩ rfl rfl ?_
  rintro ⟨i, c⟩ g1 hI1
  try dsimp only at hI1 ⊢
  have HB1 := UInt8.toNat_lt (List.getD t i 0)
  refine c_seq <| csr <| mvi rfl <| mvi rfl <| cmp _ rfl rfl rfl <| jt <| c_cond rfl (fun h2 => ?_) (fun h2 => ?_)
  ·replace h2 := of_decide_eq_true h2
   refine c_skip <| e_then <| c_seq <| c_block <| c_reg <| mvi rfl <| muli rfl rfl rfl (by omega) <| mvs rfl <| mvi rfl <| idxT (s := t) i rfl rfl uy9 rfl (by omega) <| cvI ((List.getD t i 0).toNat : Int) rfl uy5 uy3 (wI64 (by have := UInt8.toNat_lt (List.getD t i 0); omega)) <| remn (a := (List.getD t i 0).toNat) (b := 64) rfl rfl (by decide) <| addi rfl rfl rfl (by omega) <| agi rfl <| jn <| e_in <| e_then <| c_reg <| mvi rfl <| addi rfl rfl rfl (by omega) <| agi rfl <| jn ?_
   exact e_loop (i + 1, c * 64 + (List.getD t i 0).toNat % 64) (by rcases hI1 with ⟨hi, hc⟩ | ⟨hi, hc⟩ | ⟨hi, hc⟩ | ⟨hi, hc⟩ <;> subst hi <;> omega) (by show 4 - (i + 1) < 4 - i; omega) (⟨rfl, congrArg (Value.int _) (by omega), trivial⟩) rfl rfl rfl
  ·replace h2 := of_decide_eq_false h2
   refine c_exit rfl <| e_then <| csr <| mvi rfl <| mvi rfl <| agi rfl <| agi rfl <| jt <| c_ret ?_
   exact j_z (own0 := []) (ro0 := []) (.inl rfl) rfl (hr2 Tryz.results136 (rvt (v := (.int _ _)) rfl) (rvt (v := (.int _ _)) rfl)) rfl (⟨by rw [HC.1, HC.2, show c = (((((List.getD t 0 0).toNat % 8)) * 64 + (List.getD t 1 0).toNat % 64) * 64 + (List.getD t 2 0).toNat % 64) * 64 + (List.getD t 3 0).toNat % 64 by omega]; rfl, rfl, rfl⟩)
 ·replace h1 := of_decide_eq_false h1
  refine csr <| mvi rfl <| cmp _ rfl rfl rfl <| jt <| c_cond rfl (fun h3 => ?_) (fun h3 => ?_)
  ·replace h3 := of_decide_eq_true h3
   refine c_reg <| mvi rfl <| remn (a := (List.getD t 0 0).toNat) (b := 16) rfl rfl (by decide) <| agi rfl <| agi rfl <| jt <| c_seq <| c_seq ?_
   have HB0 := UInt8.toNat_lt (List.getD t 0 0)
   have HC : chr t = ((((List.getD t 0 0).toNat % 16)) * 64 + (List.getD t 1 0).toNat % 64) * 64 + (List.getD t 2 0).toNat % 64 ∧ u8step t = 3 := by rcases u8_cases hs with c | c | c | c <;> first | exact ⟨c.chr, c.k⟩ | (have := c.a; omega)
   have HLN : 3 ≤ t.length := by have := u8step_le hs hl; have := HC.2; omega
   refine c_reg <| agi rfl <| jt <| c_block <| c_loop (σ := Nat × Nat) (fun (i, c) => (i = 1 ∧ c = ((List.getD t 0 0).toNat % 16)) ∨ (i = 2 ∧ c = (((List.getD t 0 0).toNat % 16)) * 64 + (List.getD t 1 0).toNat % 64) ∨ (i = 3 ∧ c = ((((List.getD t 0 0).toNat % 16)) * 64 + (List.getD t 1 0).toNat % 64) * 64 + (List.getD t 2 0).toNat % 64)) (fun (i, c) => 4 - i) (fun (i, c) => [(6, .int .i64 (i : Int)), (4, .int .i64 (c : Int))]) (fun (i, c) => []) (fun (i, c) => []) [4, 6, 22, 23, 24, 25, 26, 27, 28, 29, 30, 31, 32, 33, 34] (1, ((List.getD t 0 0).toNat % 16)) (by simp) ⟨rfl, rfl, trivial⟩ rfl rfl ?_
   rintro ⟨i, c⟩ g1 hI1
   try dsimp only at hI1 ⊢
   have HB1 := UInt8.toNat_lt (List.getD t i 0)
   refine c_seq <| csr <| mvi rfl <| mvi rfl <| cmp _ rfl rfl rfl <| jt <| c_cond rfl (fun h4 => ?_) (fun h4 => ?_)
   ·replace h4 := of_decide_eq_true h4
    refine c_skip <| e_then <| c_seq <| c_block <| c_reg <| mvi rfl <| muli rfl rfl rfl (by omega) <| mvs rfl <| mvi rfl <| idxT (s := t) i rfl rfl uy9 rfl (by omega) <| cvI ((List.getD t i 0).toNat : Int) rfl uy5 uy3 (wI64 (by have := UInt8.toNat_lt (List.getD t i 0); omega)) <| remn (a := (List.getD t i 0).toNat) (b := 64) rfl rfl (by decide) <| addi rfl rfl rfl (by omega) <| agi rfl <| jn <| e_in <| e_then <| c_reg <| mvi rfl <| addi rfl rfl rfl (by omega) <| agi rfl <| jn ?_
    exact e_loop (i + 1, c * 64 + (List.getD t i 0).toNat % 64) (by rcases hI1 with ⟨hi, hc⟩ | ⟨hi, hc⟩ | ⟨hi, hc⟩ <;> subst hi <;> omega) (by show 4 - (i + 1) < 4 - i; omega) (⟨rfl, congrArg (Value.int _) (by omega), trivial⟩) rfl rfl rfl
   ·replace h4 := of_decide_eq_false h4
    refine c_exit rfl <| e_then <| csr <| mvi rfl <| mvi rfl <| agi rfl <| agi rfl <| jt <| c_ret ?_
    exact j_z (own0 := []) (ro0 := []) (.inl rfl) rfl (hr2 Tryz.results136 (rvt (v := (.int _ _)) rfl) (rvt (v := (.int _ _)) rfl)) rfl (⟨by rw [HC.1, HC.2, show c = ((((List.getD t 0 0).toNat % 16)) * 64 + (List.getD t 1 0).toNat % 64) * 64 + (List.getD t 2 0).toNat % 64 by omega]; rfl, rfl, rfl⟩)
  ·replace h3 := of_decide_eq_false h3
   refine csr <| mvi rfl <| cmp _ rfl rfl rfl <| jt <| c_cond rfl (fun h5 => ?_) (fun h5 => ?_)
   ·replace h5 := of_decide_eq_true h5
    refine c_reg <| mvi rfl <| remn (a := (List.getD t 0 0).toNat) (b := 32) rfl rfl (by decide) <| agi rfl <| agi rfl <| jt <| c_seq <| c_seq ?_
    have HB0 := UInt8.toNat_lt (List.getD t 0 0)
    have HC : chr t = (((List.getD t 0 0).toNat % 32)) * 64 + (List.getD t 1 0).toNat % 64 ∧ u8step t = 2 := by rcases u8_cases hs with c | c | c | c <;> first | exact ⟨c.chr, c.k⟩ | (have := c.a; omega)
    have HLN : 2 ≤ t.length := by have := u8step_le hs hl; have := HC.2; omega
    refine c_reg <| agi rfl <| jt <| c_block <| c_loop (σ := Nat × Nat) (fun (i, c) => (i = 1 ∧ c = ((List.getD t 0 0).toNat % 32)) ∨ (i = 2 ∧ c = (((List.getD t 0 0).toNat % 32)) * 64 + (List.getD t 1 0).toNat % 64)) (fun (i, c) => 4 - i) (fun (i, c) => [(6, .int .i64 (i : Int)), (4, .int .i64 (c : Int))]) (fun (i, c) => []) (fun (i, c) => []) [4, 6, 22, 23, 24, 25, 26, 27, 28, 29, 30, 31, 32, 33, 34] (1, ((List.getD t 0 0).toNat % 32)) (by simp) ⟨rfl, rfl, trivial⟩ rfl rfl ?_
    rintro ⟨i, c⟩ g1 hI1
    try dsimp only at hI1 ⊢
    have HB1 := UInt8.toNat_lt (List.getD t i 0)
    refine c_seq <| csr <| mvi rfl <| mvi rfl <| cmp _ rfl rfl rfl <| jt <| c_cond rfl (fun h6 => ?_) (fun h6 => ?_)
    ·replace h6 := of_decide_eq_true h6
     refine c_skip <| e_then <| c_seq <| c_block <| c_reg <| mvi rfl <| muli rfl rfl rfl (by omega) <| mvs rfl <| mvi rfl <| idxT (s := t) i rfl rfl uy9 rfl (by omega) <| cvI ((List.getD t i 0).toNat : Int) rfl uy5 uy3 (wI64 (by have := UInt8.toNat_lt (List.getD t i 0); omega)) <| remn (a := (List.getD t i 0).toNat) (b := 64) rfl rfl (by decide) <| addi rfl rfl rfl (by omega) <| agi rfl <| jn <| e_in <| e_then <| c_reg <| mvi rfl <| addi rfl rfl rfl (by omega) <| agi rfl <| jn ?_
     exact e_loop (i + 1, c * 64 + (List.getD t i 0).toNat % 64) (by rcases hI1 with ⟨hi, hc⟩ | ⟨hi, hc⟩ <;> subst hi <;> omega) (by show 4 - (i + 1) < 4 - i; omega) (⟨rfl, congrArg (Value.int _) (by omega), trivial⟩) rfl rfl rfl
    ·replace h6 := of_decide_eq_false h6
     refine c_exit rfl <| e_then <| csr <| mvi rfl <| mvi rfl <| agi rfl <| agi rfl <| jt <| c_ret ?_
     exact j_z (own0 := []) (ro0 := []) (.inl rfl) rfl (hr2 Tryz.results136 (rvt (v := (.int _ _)) rfl) (rvt (v := (.int _ _)) rfl)) rfl (⟨by rw [HC.1, HC.2, show c = (((List.getD t 0 0).toNat % 32)) * 64 + (List.getD t 1 0).toNat % 64 by omega]; rfl, rfl, rfl⟩)
   ·replace h5 := of_decide_eq_false h5
    refine c_skip <| e_then <| c_seq <| c_seq ?_
    have HB0 := UInt8.toNat_lt (List.getD t 0 0)
    have HC : chr t = (List.getD t 0 0).toNat ∧ u8step t = 1 := by rcases u8_cases hs with c | c | c | c <;> first | exact ⟨c.chr, c.k⟩ | (have := c.a; omega)
    have HLN : 1 ≤ t.length := by have := u8step_le hs hl; have := HC.2; omega
    refine c_reg <| agi rfl <| jt <| c_block <| c_loop (σ := Nat × Nat) (fun (i, c) => (i = 1 ∧ c = (List.getD t 0 0).toNat)) (fun (i, c) => 4 - i) (fun (i, c) => [(6, .int .i64 (i : Int)), (4, .int .i64 (c : Int))]) (fun (i, c) => []) (fun (i, c) => []) [4, 6, 22, 23, 24, 25, 26, 27, 28, 29, 30, 31, 32, 33, 34] (1, (List.getD t 0 0).toNat) (by simp) ⟨rfl, rfl, trivial⟩ rfl rfl ?_
    rintro ⟨i, c⟩ g1 hI1
    try dsimp only at hI1 ⊢
    have HB1 := UInt8.toNat_lt (List.getD t i 0)
    refine c_seq <| csr <| mvi rfl <| mvi rfl <| cmp _ rfl rfl rfl <| jt <| c_cond rfl (fun h7 => ?_) (fun h7 => ?_)
    ·replace h7 := of_decide_eq_true h7
     refine c_skip <| e_then <| c_seq <| c_block <| c_reg <| mvi rfl <| muli rfl rfl rfl (by omega) <| mvs rfl <| mvi rfl <| idxT (s := t) i rfl rfl uy9 rfl (by omega) <| cvI ((List.getD t i 0).toNat : Int) rfl uy5 uy3 (wI64 (by have := UInt8.toNat_lt (List.getD t i 0); omega)) <| remn (a := (List.getD t i 0).toNat) (b := 64) rfl rfl (by decide) <| addi rfl rfl rfl (by omega) <| agi rfl <| jn <| e_in <| e_then <| c_reg <| mvi rfl <| addi rfl rfl rfl (by omega) <| agi rfl <| jn ?_
     exact e_loop (i + 1, c * 64 + (List.getD t i 0).toNat % 64) (by obtain ⟨hi, hc⟩ := hI1; omega) (by show 4 - (i + 1) < 4 - i; omega) (⟨rfl, congrArg (Value.int _) (by omega), trivial⟩) rfl rfl rfl
    ·replace h7 := of_decide_eq_false h7
     refine c_exit rfl <| e_then <| csr <| mvi rfl <| mvi rfl <| agi rfl <| agi rfl <| jt <| c_ret ?_
     exact j_z (own0 := []) (ro0 := []) (.inl rfl) rfl (hr2 Tryz.results136 (rvt (v := (.int _ _)) rfl) (rvt (v := (.int _ _)) rfl)) rfl (⟨by rw [HC.1, HC.2, show c = (List.getD t 0 0).toNat by omega]; rfl, rfl, rfl⟩)
end Go.Proofs.YtakbbpahfclgnaaGreatDoor
namespace Go.Proofs.YtakbbpahfclgnaaGreatDoor
open Go Go.Proofs Go.PW
open Go.PW.Enc (enc val)
theorem decimal_ct (n : UInt64) : Ct Tryz.prog 120 [.int .u64 (n.toNat : Int)] [] [tPow10 9] (fun v o r => v = strV (fmtN 10 n.toNat) ∧ o = [] ∧ r = []) := by
 refine ct_enter Tryz.func120 rfl Tryz.ntmps120 (by kernel_rfl) rfl fun w0 => ?_
 refine csr <| ags rfl <| jsr <| mvi rfl <| cal (sFormatUint10_ct n) [] [] [] rfl rfl rfl (by kernel_rfl) (impl_cons (impl_at 0 rfl) impl_nil) rfl ?_; rintro _ _ _ ⟨rfl, rfl, rfl⟩; refine ⟨trivial, ?_⟩
 refine ags rfl <| jt <| c_ret ?_
 exact j_z (own0 := []) (ro0 := [tPow10 9]) (.inl rfl) rfl (hr1 Tryz.results120 (rvt (v := (.string _)) rfl)) rfl (⟨rfl, rfl, rfl⟩)
theorem rhex_ct (n : UInt64) (k : Nat) (hk : k ≤ 16) : Ct Tryz.prog 137 [.int .u64 (n.toNat : Int), .int .i64 (k : Int)] [] [tDb64 11] (fun v o r => v = strV (padN k (fmtN 16 n.toNat)) ∧ o = [] ∧ r = []) := by
 refine ct_enter Tryz.func137 rfl Tryz.ntmps137 (by kernel_rfl) rfl fun w0 => ?_
 refine csr <| ags rfl <| jsr <| mvi rfl <| cal (sFormatUint16_ct n) [] [] [] rfl rfl rfl (by kernel_rfl) (impl_cons (impl_at 0 rfl) impl_nil) rfl ?_; rintro _ _ _ ⟨rfl, rfl, rfl⟩; refine ⟨trivial, ?_⟩
 refine ags rfl <| jt <| c_seq <| c_block <| c_loop (σ := Str) (fun s => padN k s = padN k (fmtN 16 n.toNat) ∧ s.length ≤ 65) (fun s => k - s.length) (fun s => [(5, strV s)]) (fun s => []) (fun s => [tDb64 11]) [5, 8, 9, 10, 11, 12, 13] (fmtN 16 n.toNat) (⟨rfl, (fmtN_length _ _).2⟩) ⟨rfl, trivial⟩ rfl rfl ?_
 rintro s g1 hI1
 try dsimp only at hI1 ⊢
 refine c_seq <| csr <| mvs rfl <| lenT (s := s) rfl uy9 <| mvi rfl <| cmp _ rfl rfl rfl <| jt <| c_cond rfl (fun h1 => ?_) (fun h1 => ?_)
 ·replace h1 := of_decide_eq_true h1
  refine c_skip <| e_then <| c_block <| c_reg <| mvs rfl <| sadd (a := ([48] : Str)) (b := s) rfl rfl (by first | omega | (simp; omega)) <| ags rfl <| jn <| e_in ?_
  exact e_loop (([48] : Str) ++ s) (⟨by rw [pad_step (by omega)]; exact hI1.1, by simp; omega⟩) (by simp; omega) (⟨rfl, trivial⟩) rfl rfl rfl
 ·replace h1 := of_decide_eq_false h1
  refine c_exit rfl <| e_then <| csr <| mvs rfl <| ags rfl <| jt <| c_ret ?_
  exact j_z (own0 := []) (ro0 := [tDb64 11]) (.inl rfl) rfl (hr1 Tryz.results137 (rvt (v := (.string _)) rfl)) rfl (⟨by rw [← hI1.1, pad_done (by omega)], rfl, rfl⟩)
end Go.Proofs.YtakbbpahfclgnaaGreatDoor
namespace Go.PW
open Enc (enc val)
open Go
section
variable {cx : Cx} {md : Md} {ops : Array Oper} {Q : Exit → Act → World → Prop} {rest : List (Oper × Nat)} {kq : Nat} {base : Nat → Value} {L : List (Nat × Value)} {own ro : List Seg}
variable {q : Nat} {d : Nat} {ty : TypeId} {pos : String} {aft : Array Edge} {x y z : Operand} {xt yt : TypeId} {k k2 : IntKind}
theorem eqI {a b : Value} {op : BinOp} (e r : Bool) (hx : ev cx.n base L x = a) (hy : ev cx.n base L y = b) (hg : ∀ op w, (eqGuard op xt x y a b).run cx.P w = .ok () w) (hb1 : binOp .eql xt a b = (do pure (.bool (← Op.equalIn (9999 + 1) xt a b)))) (hb2 : binOp .neq xt a b = (do pure (.bool (!(← Op.equalIn (9999 + 1) xt a b)))))
    (hq : ∀ w, (Op.equalIn (9999 + 1) xt a b).run cx.P w = .ok e w) (hr : (match op with | .eql => some e | .neq => some !e | _ => none) = some r)
    (h : JG cx md ops Q rest base ((d, .bool r) :: L) own ro) : JG cx md ops Q ((⟨some d, .binOp op xt x y yt, ty, pos, aft, none⟩, q) :: rest) base L own ro :=
  qt (fun w _ => by
    cases op <;> dsimp only at hr <;> cases hr
    · simp only [execOp, hx, hy, hg, hb1, Sem.run_bind, Sem.run_pure, Result.andThen_ok, hq]
    · simp only [execOp, hx, hy, hg, hb2, Sem.run_bind, Sem.run_pure, Result.andThen_ok, hq]) h
theorem eqin {t : TypeId} {v : Value} {ms} {op : BinOp} (r : Bool) (hx : ev cx.n base L x = .iface t v) (hy : ev cx.n base L y = .nilIface) (hu : cx.P.underlying xt = some (.interface ms)) (hr : (match op with | .eql => some false | .neq => some !false | _ => none) = some r)
    (h : JG cx md ops Q rest base ((d, .bool r) :: L) own ro) : JG cx md ops Q ((⟨some d, .binOp op xt x y yt, ty, pos, aft, none⟩, q) :: rest) base L own ro :=
  eqI false r hx hy (fun op w => by unfold eqGuard; cases op <;> rfl) rfl rfl (fun w => (show ∀ n, (Op.equalIn (n + 1) xt (.iface t v) .nilIface).run cx.P w = .ok false w from fun n => by simp [Op.equalIn, run_underlying hu]) 9999) hr h
theorem eqnn {ms} {op : BinOp} (r : Bool) (hx : ev cx.n base L x = .nilIface) (hu : cx.P.underlying xt = some (.interface ms)) (hr : (match op with | .eql => some true | .neq => some !true | _ => none) = some r)
    (h : JG cx md ops Q rest base ((d, .bool r) :: L) own ro) : JG cx md ops Q ((⟨some d, .binOp op xt x (.const .nilIface) yt, ty, pos, aft, none⟩, q) :: rest) base L own ro :=
  eqI true r hx rfl (fun op w => by unfold eqGuard; cases op <;> simp [Sem.run_pure] <;> rfl) rfl rfl (fun w => (show ∀ n, (Op.equalIn (n + 1) xt .nilIface .nilIface).run cx.P w = .ok true w from fun n => by simp [Op.equalIn, run_underlying hu]) 9999) hr h
theorem eqii {t : TypeId} {a b : Int} {ms} {op : BinOp} (r : Bool) (hx : ev cx.n base L x = .iface t (.int k a)) (hy : ev cx.n base L y = .iface t (.int k b)) (hu : cx.P.underlying xt = some (.interface ms)) (ht : cx.P.underlying t = some (.int k)) (hc : (cx.P.info? t).map (·.comparable) = some true)
    (hr : (match op with | .eql => some (decide (a = b)) | .neq => some !(decide (a = b)) | _ => none) = some r)
    (h : JG cx md ops Q rest base ((d, .bool r) :: L) own ro) : JG cx md ops Q ((⟨some d, .binOp op xt x y yt, ty, pos, aft, none⟩, q) :: rest) base L own ro :=
  eqI (decide (a = b)) r hx hy (fun op w => by unfold eqGuard; cases op <;> rfl) rfl rfl (fun w => by
    cases hi : cx.P.info? t with
    | none => simp [hi] at hc
    | some i =>
      have hcc : i.comparable = true := by simpa [hi] using hc
      have hbeq : (a == b) = decide (a = b) := by rw [Bool.eq_iff_iff]; simp
      exact (show ∀ n, (Op.equalIn (n + 1 + 1) xt (.iface t (.int k a)) (.iface t (.int k b))).run cx.P w = .ok (decide (a = b)) w from fun n => by simp [Op.equalIn, run_underlying hu, run_underlying ht, typeInfo, hi, hcc, hbeq]) 9998) hr h
theorem cpy {α : Type} [Enc α] {E len cap : Nat} {a : Option Addr} {S T : TypeId} {yv : Value} (j : Nat) (o : Ow) (xs ys : List α) (hok : o.ok xs) (hx : ev cx.n base L x = .slice a len cap) (ha : a = o.adr) (hl : len = xs.length) (hs : own[j]? = some (o.seg xs E)) (hy : ev cx.n base L y = yv) (hg : Gives cx.P (own ++ ro) yv ys)
    (hle : ys.length ≤ xs.length) (hu : cx.P.underlying S = some (.slice E)) (hsz : (cx.P.info? E).map (·.size) = some (Enc.n α))
    (h : Keep md kq rest (own.set j (o.seg (ys ++ xs.drop ys.length) E)) ro ∧ JG cx md ops Q rest base ((d, .int .i64 (ys.length : Int)) :: L) (own.set j (o.seg (ys ++ xs.drop ys.length) E)) ro) :
    JG cx md ops Q ((⟨some d, .call ⟨.builtin .copy, #[x, y], #[S, T]⟩, ty, pos, aft, none⟩, kq + 1) :: rest) base L own ro :=
  nq (Post := fun L' own' ro' => L' = (d, .int .i64 (ys.length : Int)) :: L ∧ own' = own.set j (o.seg (ys ++ xs.drop ys.length) E) ∧ ro' = ro) rfl
    (fun w K hw hK => by
      subst ha; subst hl
      obtain ⟨h1, h2⟩ := hg w (fun s hs' => hw.src s hs')
      have hmin : Nat.min ys.length xs.length = ys.length := Nat.min_eq_left hle
      have hin := hw.has.o _ (List.mem_of_getElem? hs)
      unfold Oper.wp
      rw [A_eval_fun]
      cases hn : o.nl with
      | true =>
        obtain ⟨rfl, hcap⟩ := hok.nl hn
        have hys : ys = [] := List.eq_nil_of_length_eq_zero (by simpa using hle)
        subst hys
        have hadr : o.adr = none := by simp [Ow.adr, hn]
        rw [List.length_nil] at hx
        have hr : (Builtin.copy_ #[S, T] ty #[.slice o.adr 0 cap, yv]).run cx.P w = .ok (.int .i64 0) w := by
          rw [hadr]
          simp only [List.length_nil] at h1 h2
          simp [Builtin.copy_, run_underlying hu, h1, h2, run_sizeOf' hsz, goInt]
        have hr' : (execOp (ev cx.n base L) ⟨some d, .call ⟨.builtin .copy, #[x, y], #[S, T]⟩, ty, pos, aft, none⟩).run cx.P w = .ok (.value (.int .i64 0)) w := by
          simp [execOp, resolve, hx, hy, invoke, builtin, hr]
        simp only [hr', Oper.upon]
        rw [A_put]
        refine hK _ _ _ _ ⟨rfl, rfl, rfl⟩ ?_
        have e : own.set j (o.seg ([] ++ ([] : List α).drop ([] : List α).length) E) = own := by
          have : o.seg ([] ++ ([] : List α).drop ([] : List α).length) E = o.seg ([] : List α) E := by simp
          rw [this]
          obtain ⟨hlt, he⟩ := List.getElem?_eq_some_iff.1 hs
          rw [← he]; exact List.set_getElem_self hlt
        rw [e]; exact hw
      | false =>
        have hadr : o.adr = some ⟨o.b, 0, none⟩ := by simp [Ow.adr, hn]
        have hseg : o.seg xs E = [(o.b, .cells (encs xs ++ o.sp) E)] := by simp [Ow.seg, hn]
        have hseg2 : o.seg (ys ++ xs.drop ys.length) E = [(o.b, .cells (encs (ys ++ xs.drop ys.length) ++ o.sp) E)] := by simp [Ow.seg, hn]
        rw [hseg] at hin hs
        obtain ⟨ob, hob, fr, rfl, hfr⟩ := hin _ (List.mem_singleton.2 rfl)
        obtain ⟨w', hst, hh, hold, hsz2, hos, htp, hout⟩ := run_stores (P := cx.P) (encs ys) 0 0 (encs xs ++ o.sp) w hob hfr (by rw [List.length_append, encs_length, encs_length]; have := Nat.mul_le_mul_right (Enc.n α) hle; omega) (encs_one ys)
        have hr : (Builtin.copy_ #[S, T] ty #[.slice o.adr xs.length cap, yv]).run cx.P w = .ok (.int .i64 (ys.length : Int)) w' := by
          rw [hadr]
          have hst' : (storeCells ⟨o.b, 0, none⟩ (encs ys)).run cx.P w = .ok () w' := hst
          simp [Builtin.copy_, run_underlying hu, h1, hmin, h2, run_sizeOf' hsz, hst', goInt]
        have hr' : (execOp (ev cx.n base L) ⟨some d, .call ⟨.builtin .copy, #[x, y], #[S, T]⟩, ty, pos, aft, none⟩).run cx.P w = .ok (.value (.int .i64 (ys.length : Int))) w' := by
          simp [execOp, resolve, hx, hy, invoke, builtin, hr]
        simp only [hr', Oper.upon]
        rw [A_put]
        refine hK _ _ _ _ ⟨rfl, rfl, rfl⟩ ?_
        rw [hseg2]
        have ec : List.take (0 + 0) (encs xs ++ o.sp) ++ (encs ys ++ List.drop (0 + 0 + (encs ys).length) (encs xs ++ o.sp)) = encs (ys ++ xs.drop ys.length) ++ o.sp := by
          have : encs xs = encs (xs.take ys.length) ++ encs (xs.drop ys.length) := by rw [← encs_append, List.take_append_drop]
          rw [encs_append, this]
          have hl2 : (encs (xs.take ys.length)).length = (encs ys).length := by rw [encs_length, encs_length, List.length_take, Nat.min_eq_left hle]
          simp [List.drop_append, hl2]
        rw [ec] at hh
        refine hw.turn hs hh ⟨fr, rfl, ?_⟩ hold hsz2 hos htp hout
        have : (encs (ys ++ xs.drop ys.length) ++ o.sp).length = (encs xs ++ o.sp).length := by
          rw [List.length_append, List.length_append, encs_length, encs_length, List.length_append, List.length_drop, show ys.length + (xs.length - ys.length) = xs.length by omega]
        rw [this]; exact hfr)
    (by rintro L' own' ro' ⟨rfl, rfl, rfl⟩; exact h.1)
    (by rintro L' own' ro' ⟨rfl, rfl, rfl⟩; exact h.2)
theorem sap {a : Option Addr} {len cap n : Nat} {e : TypeId} (hx : ev cx.n base L x = .slice a len cap) (hu : cx.P.underlying xt = some (.array n e)) (hl : n ≤ len)
    (h : JG cx md ops Q rest base ((d, .pointer a) :: L) own ro) : JG cx md ops Q ((⟨some d, .sliceToArrayPointer xt x, ty, pos, aft, none⟩, q) :: rest) base L own ro :=
  qt (fun w _ => by
    have hlt : ¬ len < n := by omega
    simp [execOp, hx, Instr.arrayAt, run_underlying hu, hlt]) h
theorem ldRow {α : Type} [Enc α] {t n E : Nat} {a : Option Addr} {o : Ow} {xs : List α} (j : Nat) (hok : o.ok xs) (hn : xs.length = n) (h0 : 0 < n) (hx : ev cx.n base L x = .pointer a) (ha : a = o.adr) (hs : (Src md q own ro)[j]? = some (o.seg xs E)) (ht : Ty cx.P t (Enc.n (Arr α n)) (Enc.ag (Arr α n)))
    (h : JG cx md ops Q rest base ((d, val (⟨xs, hn⟩ : Arr α n)) :: L) own ro) : JG cx md ops Q ((⟨some d, .load t x, ty, pos, aft, none⟩, q) :: rest) base L own ro := by
  subst ha
  have hnl : o.nl = false := Ow.ne hok (i := 0) (by omega)
  have hadr : o.adr = some ⟨o.b, 0, none⟩ := by simp [Ow.adr, hnl]
  have hseg : o.seg xs E = [(o.b, .cells (encs xs ++ o.sp) E)] := by simp [Ow.seg, hnl]
  rw [hadr] at hx
  rw [hseg] at hs
  exact ldg (p := pt (⟨xs, hn⟩ : Arr α n)) hx (List.mem_of_getElem? hs) ht (fun w hw => cellsAt_cells hw (List.mem_singleton.2 rfl) (pre := []) (post := o.sp) rfl rfl) h
end
def idxN (s : Str) (c : UInt8) : Nat := (s.takeWhile (· != c)).length
def idxB (s : Str) (c : UInt8) : Int := if idxN s c < s.length then (idxN s c : Int) else -1
theorem idxN_le (s : Str) (c : UInt8) : idxN s c ≤ s.length := (List.takeWhile_prefix _).length_le
theorem idxN_spec (s : Str) (c : UInt8) : (∀ j, j < idxN s c → List.getD s j 0 ≠ c) ∧ (idxN s c < s.length → List.getD s (idxN s c) 0 = c) := by
  induction s with
  | nil => simp [idxN]
  | cons a r ih =>
    unfold idxN at ih ⊢
    by_cases h : a = c
    · subst h
      simp
    · have hb : (a != c) = true := by simpa using h
      rw [List.takeWhile_cons_of_pos (p := fun x => x != c) hb]
      refine ⟨fun j hj => ?_, fun hl => ?_⟩
      · cases j with
        | zero => simpa using h
        | succ j => simpa using ih.1 j (by simpa using hj)
      · simpa using ih.2 (by simpa using hl)
theorem idxB_at {s : Str} {c : UInt8} (h : 0 ≤ idxB s c) : idxB s c = (idxN s c : Int) := by
  unfold idxB at h ⊢
  by_cases hl : idxN s c < s.length
  · rw [if_pos hl]
  · rw [if_neg hl] at h; omega
theorem idxB_lt {s : Str} {c : UInt8} (h : 0 ≤ idxB s c) : idxN s c < s.length := by
  unfold idxB at h
  by_cases hl : idxN s c < s.length
  · exact hl
  · rw [if_neg hl] at h; omega
theorem idxN_all {s : Str} {c : UInt8} (h : ¬ 0 ≤ idxB s c) : idxN s c = s.length := by
  have := idxN_le s c
  unfold idxB at h
  by_cases hl : idxN s c < s.length
  · rw [if_pos hl] at h; omega
  · omega
theorem run_indexByte {P : Program} (s : Str) (c : UInt8) (w : World) : (Extern.BytealgIndexByte.indexByte #[strV s, .int .u8 (c.toNat : Int)]).run P w = .ok (.int .i64 (idxB s c)) w := by
  have hg : ∀ i, (⟨⟨s⟩⟩ : ByteArray)[i]! = List.getD s i 0 := fun i => by
    by_cases h : i < s.length
    · rw [getElem!_pos (⟨⟨s⟩⟩ : ByteArray) i h]
      have : (⟨⟨s⟩⟩ : ByteArray)[i]'h = s[i] := rfl
      rw [this]; simp [List.getD, h]
    · rw [getElem!_neg (⟨⟨s⟩⟩ : ByteArray) i h]; simp [List.getD, h]; rfl
  have hf : ((List.range (⟨⟨s⟩⟩ : ByteArray).size).find? fun i => (⟨⟨s⟩⟩ : ByteArray)[i]! == c) = if idxN s c < s.length then some (idxN s c) else none := by
    have hsp := idxN_spec s c
    by_cases h : idxN s c < s.length
    · rw [if_pos h]
      refine List.find?_range_eq_some.2 ⟨?_, ?_, ?_⟩
      · rw [hg, hsp.2 h]; simp
      · exact List.mem_range.2 h
      · intro j hj
        rw [hg]
        simpa using hsp.1 j hj
    · rw [if_neg h]
      refine List.find?_range_eq_none.2 fun i hi => ?_
      rw [hg]
      have hi' : i < s.length := hi
      simpa using hsp.1 i (by omega)
  have hc : (c.toNat : Int).toNat.toUInt8 = c := by simp
  have h0 : Extern.BytealgIndexByte.indexByte #[strV s, .int .u8 (c.toNat : Int)] = (match (List.range (⟨⟨s⟩⟩ : ByteArray).size).find? fun i => (⟨⟨s⟩⟩ : ByteArray)[i]! == (c.toNat : Int).toNat.toUInt8 with
      | some i => pure (goInt i)
      | none => pure (goInt (-1))) := rfl
  rw [h0, hc, hf]
  unfold idxB
  by_cases h : idxN s c < s.length
  · simp [h, goInt]
  · simp [h, goInt]
end Go.PW
namespace Go.PW
open Go
def dgv (c : UInt8) : Nat := if c.toNat < 58 then c.toNat - 48 else c.toNat - 87
def valN (b : Nat) (w : Str) : Nat := w.foldl (fun a c => a * b + dgv c) 0
theorem dgv_dch : ∀ d, d < 36 → dgv (dch d) = d := by decide
theorem valN_app (b : Nat) (w : Str) (c : UInt8) : valN b (w ++ [c]) = valN b w * b + dgv c := by simp [valN]
theorem valN_digs {b : Nat} (hb : 2 ≤ b) (hb2 : b ≤ 36) : ∀ k n, valN b (digs b k n) = n % b ^ k
  | 0, n => by simp [digs, valN, Nat.mod_one]
  | k + 1, n => by
    rw [digs, valN_app, valN_digs hb hb2 k (n / b), dgv_dch _ (Nat.lt_of_lt_of_le (Nat.mod_lt _ (by omega)) hb2), Nat.pow_succ', Nat.mod_mul, Nat.mul_comm, Nat.add_comm]
theorem fmtN_lt {b n : Nat} (hb : 2 ≤ b) (h : n < b ^ 65) : n < b ^ (fmtN b n).length := by
  unfold fmtN; rw [digs_length]; exact ndg_lt hb 64 n h
theorem valN_fmt {b n : Nat} (hb : 2 ≤ b) (hb2 : b ≤ 36) (h : n < b ^ 65) : valN b (fmtN b n) = n := by
  have := fmtN_lt hb h
  unfold fmtN at this ⊢
  rw [digs_length] at this
  rw [valN_digs hb hb2, Nat.mod_eq_of_lt this]
theorem u64_pow {b n : Nat} (hb : 2 ≤ b) (h : n < 18446744073709551616) : n < b ^ 65 := by
  have : 2 ^ 65 ≤ b ^ 65 := Nat.pow_le_pow_left hb 65
  omega
def pnum (b : Nat) (w : Str) : Option Nat := if fmtN b (valN b w) = w then some (valN b w) else none
theorem pnum_some {b n : Nat} {w : Str} (h : pnum b w = some n) : w = fmtN b n := by
  unfold pnum at h
  split at h
  · rename_i hh; cases h; exact hh.symm
  · cases h
theorem pnum_fmt {b n : Nat} (hb : 2 ≤ b) (hb2 : b ≤ 36) (h : n < 18446744073709551616) : pnum b (fmtN b n) = some n := by
  unfold pnum; rw [valN_fmt hb hb2 (u64_pow hb h), if_pos rfl]
theorem digs_mem {b : Nat} (hb : 2 ≤ b) (hb2 : b ≤ 36) : ∀ k n x, x ∈ digs b k n → ∃ d, d < b ∧ x = dch d
  | 0, n, x, h => by cases h
  | k + 1, n, x, h => by
    rw [digs] at h
    rcases List.mem_append.1 h with h | h
    · exact digs_mem hb hb2 k _ x h
    · rw [List.mem_singleton] at h; exact ⟨n % b, Nat.mod_lt _ (by omega), h⟩
theorem dch_hex : ∀ d, d < 16 → (dch d).toNat ≠ 125 ∧ (dch d).toNat ≠ 32 := by decide
theorem fmt16_mem {n : Nat} {x : UInt8} (h : x ∈ fmtN 16 n) : x ≠ 125 := by
  obtain ⟨d, h1, rfl⟩ := digs_mem (by omega) (by omega) _ _ _ h
  intro e
  exact (dch_hex d h1).1 (by rw [e]; rfl)
def hexv (c : UInt8) : Nat := if 48 ≤ c.toNat ∧ c.toNat ≤ 57 then c.toNat - 48 else if 97 ≤ c.toNat ∧ c.toNat ≤ 102 then c.toNat - 87 else 16
theorem idx_hex_all : ∀ c : Fin 256, idxB hexL (UInt8.ofNat c.val) = if hexv (UInt8.ofNat c.val) < 16 then (hexv (UInt8.ofNat c.val) : Int) else -1 := by decide +kernel
theorem idx_hex (c : UInt8) : idxB hexL c = if hexv c < 16 then (hexv c : Int) else -1 := by
  have := idx_hex_all ⟨c.toNat, c.toNat_lt⟩
  simpa using this
theorem hexv_le (c : UInt8) : hexv c ≤ 16 := by
  have := c.toNat_lt
  unfold hexv; split
  · omega
  · split <;> omega
theorem or4_all : ∀ h x : Fin 16, (shlU8 (UInt8.ofNat h.val) 4 ||| UInt8.ofNat x.val) = UInt8.ofNat (h.val * 16 + x.val) := by decide +kernel
theorem or4 {h x : Nat} (h1 : h < 16) (h2 : x < 16) : (shlU8 (UInt8.ofNat h) 4 ||| UInt8.ofNat x) = UInt8.ofNat (h * 16 + x) := or4_all ⟨h, h1⟩ ⟨x, h2⟩
def hbyte (w : Str) (i j : Nat) : UInt8 := if 2 * j + 1 < i then UInt8.ofNat (hexv (List.getD w (2 * j) 0) * 16 + hexv (List.getD w (2 * j + 1) 0)) else if 2 * j < i then UInt8.ofNat (hexv (List.getD w (2 * j) 0)) else 0
def hrow (w : Str) (n i : Nat) : Str := (List.range n).map (hbyte w i)
theorem hrow_length (w : Str) (n i : Nat) : (hrow w n i).length = n := by simp [hrow]
theorem hrow_get {w : Str} {n i j : Nat} (h : j < n) : List.getD (hrow w n i) j 0 = hbyte w i j := by simp [hrow, List.getD, h]
theorem hrow_zero (w : Str) (n : Nat) : hrow w n 0 = List.replicate n 0 := by
  apply List.ext_getElem (by simp [hrow])
  intro i h1 h2
  simp [hrow, hbyte]
theorem hrow_step {w : Str} {n i : Nat} (h : i < 2 * n) (h1 : hexv (List.getD w i 0) < 16) (h2 : ∀ j, j < i → hexv (List.getD w j 0) < 16) :
    hrow w n (i + 1) = (hrow w n i).set (i / 2) (shlU8 (List.getD (hrow w n i) (i / 2) 0) 4 ||| UInt8.ofNat (hexv (List.getD w i 0))) := by
  rw [hrow_get (by omega)]
  have hv : (shlU8 (hbyte w i (i / 2)) 4 ||| UInt8.ofNat (hexv (List.getD w i 0))) = hbyte w (i + 1) (i / 2) := by
    unfold hbyte
    rw [if_neg (show ¬ 2 * (i / 2) + 1 < i by omega)]
    rcases Nat.mod_two_eq_zero_or_one i with hm | hm
    · rw [if_neg (by omega), if_neg (by omega), if_pos (by omega), show 2 * (i / 2) = i by omega]
      have := or4 (h := 0) (x := hexv (List.getD w i 0)) (by omega) h1
      simpa using this
    · rw [if_pos (by omega), if_pos (by omega), or4 (h2 _ (by omega)) h1, show 2 * (i / 2) + 1 = i by omega]
  rw [hv]
  apply List.ext_getElem (by simp [hrow])
  intro j h3 h4
  have hj : j < n := by simpa [hrow] using h3
  rw [List.getElem_set]
  by_cases hji : i / 2 = j
  · subst hji; simp [hrow]
  · rw [if_neg hji]
    simp only [hrow, List.getElem_map, List.getElem_range]
    unfold hbyte
    by_cases h5 : 2 * j + 1 < i
    · rw [if_pos h5, if_pos (by omega)]
    · rw [if_neg h5, if_neg (by omega)]
      by_cases h6 : 2 * j < i
      · exfalso; omega
      · rw [if_neg h6, if_neg (by omega)]
def hexb (w : Str) (n : Nat) : Str := hrow w n (2 * n)
def hexok (w : Str) : Bool := w.all fun c => decide (hexv c < 16)
theorem hexok_get {w : Str} (h : hexok w = true) {i : Nat} (hi : i < w.length) : hexv (List.getD w i 0) < 16 := by
  have := List.all_eq_true.1 h (List.getD w i 0) (by simp [List.getD, hi])
  simpa using this
theorem hexok_of {w : Str} (h : ∀ i, i < w.length → hexv (List.getD w i 0) < 16) : hexok w = true := by
  unfold hexok
  rw [List.all_eq_true]
  intro x hx
  obtain ⟨i, hi, rfl⟩ := List.getElem_of_mem hx
  have := h i hi
  simpa [List.getD, hi] using this
theorem hexok_no {w : Str} {i : Nat} (hi : i < w.length) (h : ¬ hexv (List.getD w i 0) < 16) : hexok w = false := by
  cases hb : hexok w with
  | false => rfl
  | true => exact absurd (hexok_get hb hi) h
def hval (w : Str) (i : Nat) : Nat := (w.take i).foldl (fun a c => a * 16 + hexv c) 0
theorem hval_step {w : Str} {i : Nat} (h : i < w.length) : hval w (i + 1) = hval w i * 16 + hexv (List.getD w i 0) := by
  unfold hval
  rw [List.take_succ_eq_append_getElem h, List.foldl_append]
  simp [List.getD, h]
theorem hval_lt {w : Str} (h : hexok w = true) : ∀ i, i ≤ w.length → hval w i < 16 ^ i
  | 0, _ => by simp [hval]
  | i + 1, hi => by
    have h1 := hval_lt h i (by omega)
    have h2 := hexok_get h (i := i) (by omega)
    rw [hval_step (by omega), Nat.pow_succ]; omega
def vrune (c : Nat) : Bool := decide (c < 55296) || (decide (57344 ≤ c) && decide (c ≤ 1114111))
def enc8 (c : Nat) : Str :=
  if c < 128 then [UInt8.ofNat c]
  else if c < 2048 then [UInt8.ofNat (192 + c / 64), UInt8.ofNat (128 + c % 64)]
  else if c < 65536 then [UInt8.ofNat (224 + c / 4096), UInt8.ofNat (128 + c / 64 % 64), UInt8.ofNat (128 + c % 64)]
  else [UInt8.ofNat (240 + c / 262144), UInt8.ofNat (128 + c / 4096 % 64), UInt8.ofNat (128 + c / 64 % 64), UInt8.ofNat (128 + c % 64)]
theorem vrune_iff {c : Nat} : vrune c = true ↔ c < 55296 ∨ (57344 ≤ c ∧ c ≤ 1114111) := by simp [vrune]
theorem bn {n : Nat} (h : n < 256) : (UInt8.ofNat n).toNat = n := by rw [UInt8.toNat_ofNat']; omega
theorem enc8_len (c : Nat) : 1 ≤ (enc8 c).length ∧ (enc8 c).length ≤ 4 := by
  unfold enc8
  repeat' split
  all_goals simp
theorem enc8_read {c : Nat} (hv : vrune c = true) (r : Str) : u8step (enc8 c ++ r) = (enc8 c).length ∧ chr (enc8 c ++ r) = c := by
  rw [vrune_iff] at hv
  unfold enc8
  by_cases h1 : c < 128
  · rw [if_pos h1]
    have b0 := bn (n := c) (by omega)
    have g0 : List.getD ([UInt8.ofNat c] ++ r) 0 0 = UInt8.ofNat c := rfl
    refine ⟨?_, ?_⟩
    · unfold u8step bt; rw [g0, b0, if_pos h1]; rfl
    · unfold chr; rw [g0, b0, if_pos h1]
  rw [if_neg h1]
  by_cases h2 : c < 2048
  · rw [if_pos h2]
    have b0 := bn (n := 192 + c / 64) (by omega)
    have b1 := bn (n := 128 + c % 64) (by omega)
    have g0 : List.getD ([UInt8.ofNat (192 + c / 64), UInt8.ofNat (128 + c % 64)] ++ r) 0 0 = UInt8.ofNat (192 + c / 64) := rfl
    have g1 : List.getD ([UInt8.ofNat (192 + c / 64), UInt8.ofNat (128 + c % 64)] ++ r) 1 0 = UInt8.ofNat (128 + c % 64) := rfl
    refine ⟨?_, ?_⟩
    · unfold u8step bt; rw [g0, g1, b0, b1, if_neg (by omega), if_neg (by omega), if_pos (by omega), if_pos (by simp [cont]; omega)]; rfl
    · unfold chr; rw [g0, g1, b0, b1, if_neg (by omega), if_pos (by omega)]; omega
  rw [if_neg h2]
  by_cases h3 : c < 65536
  · rw [if_pos h3]
    have b0 := bn (n := 224 + c / 4096) (by omega)
    have b1 := bn (n := 128 + c / 64 % 64) (by omega)
    have b2 := bn (n := 128 + c % 64) (by omega)
    have g0 : List.getD ([UInt8.ofNat (224 + c / 4096), UInt8.ofNat (128 + c / 64 % 64), UInt8.ofNat (128 + c % 64)] ++ r) 0 0 = UInt8.ofNat (224 + c / 4096) := rfl
    have g1 : List.getD ([UInt8.ofNat (224 + c / 4096), UInt8.ofNat (128 + c / 64 % 64), UInt8.ofNat (128 + c % 64)] ++ r) 1 0 = UInt8.ofNat (128 + c / 64 % 64) := rfl
    have g2 : List.getD ([UInt8.ofNat (224 + c / 4096), UInt8.ofNat (128 + c / 64 % 64), UInt8.ofNat (128 + c % 64)] ++ r) 2 0 = UInt8.ofNat (128 + c % 64) := rfl
    refine ⟨?_, ?_⟩
    · unfold u8step bt; rw [g0, g1, g2, b0, b1, b2, if_neg (by omega), if_neg (by omega), if_neg (by omega), if_pos (by omega), if_pos (by simp [cont]; omega)]; rfl
    · unfold chr; rw [g0, g1, g2, b0, b1, b2, if_neg (by omega), if_neg (by omega), if_pos (by omega)]; omega
  · rw [if_neg h3]
    have b0 := bn (n := 240 + c / 262144) (by omega)
    have b1 := bn (n := 128 + c / 4096 % 64) (by omega)
    have b2 := bn (n := 128 + c / 64 % 64) (by omega)
    have b3 := bn (n := 128 + c % 64) (by omega)
    have g0 : List.getD ([UInt8.ofNat (240 + c / 262144), UInt8.ofNat (128 + c / 4096 % 64), UInt8.ofNat (128 + c / 64 % 64), UInt8.ofNat (128 + c % 64)] ++ r) 0 0 = UInt8.ofNat (240 + c / 262144) := rfl
    have g1 : List.getD ([UInt8.ofNat (240 + c / 262144), UInt8.ofNat (128 + c / 4096 % 64), UInt8.ofNat (128 + c / 64 % 64), UInt8.ofNat (128 + c % 64)] ++ r) 1 0 = UInt8.ofNat (128 + c / 4096 % 64) := rfl
    have g2 : List.getD ([UInt8.ofNat (240 + c / 262144), UInt8.ofNat (128 + c / 4096 % 64), UInt8.ofNat (128 + c / 64 % 64), UInt8.ofNat (128 + c % 64)] ++ r) 2 0 = UInt8.ofNat (128 + c / 64 % 64) := rfl
    have g3 : List.getD ([UInt8.ofNat (240 + c / 262144), UInt8.ofNat (128 + c / 4096 % 64), UInt8.ofNat (128 + c / 64 % 64), UInt8.ofNat (128 + c % 64)] ++ r) 3 0 = UInt8.ofNat (128 + c % 64) := rfl
    refine ⟨?_, ?_⟩
    · unfold u8step bt; rw [g0, g1, g2, g3, b0, b1, b2, b3, if_neg (by omega), if_neg (by omega), if_neg (by omega), if_neg (by omega), if_pos (by omega), if_pos (by simp [cont]; omega)]; rfl
    · unfold chr; rw [g0, g1, g2, g3, b0, b1, b2, b3, if_neg (by omega), if_neg (by omega), if_neg (by omega)]; omega
theorem ofN (x : UInt8) : UInt8.ofNat x.toNat = x := by simp
theorem chr_enc {t : Str} (h : u8step t ≠ 0) (hl : 0 < t.length) : enc8 (chr t) = t.take (u8step t) ∧ vrune (chr t) = true := by
  have hle := u8step_le h hl
  rw [vrune_iff]
  rcases u8_cases h with c | c | c | c
  · have hk := c.k; have ha := c.a
    match t, hl with
    | a :: r, _ =>
      have g0 : List.getD (a :: r) 0 0 = a := rfl
      rw [g0] at ha
      rw [c.chr, hk, g0]
      refine ⟨?_, by omega⟩
      unfold enc8; rw [if_pos ha, ofN]; rfl
  · have hk := c.k; have ha := c.a; have hb := c.b; have hc := c.chr
    rw [hk] at hle
    match t, hle.2.1 with
    | a :: b :: r, _ =>
      have g0 : List.getD (a :: b :: r) 0 0 = a := rfl
      have g1 : List.getD (a :: b :: r) 1 0 = b := rfl
      rw [g0] at ha; rw [g1] at hb; rw [g0, g1] at hc
      rw [hc, hk]
      refine ⟨?_, by omega⟩
      unfold enc8
      rw [if_neg (by omega), if_pos (by omega), show 192 + (a.toNat % 32 * 64 + b.toNat % 64) / 64 = a.toNat by omega, show 128 + (a.toNat % 32 * 64 + b.toNat % 64) % 64 = b.toNat by omega, ofN, ofN]; rfl
  · have hk := c.k; have ha := c.a; have hb := c.b; have hd := c.c; have hc := c.chr; have hlo := c.lo; have hhi := c.hi
    rw [hk] at hle
    match t, hle.2.1 with
    | a :: b :: e :: r, _ =>
      have g0 : List.getD (a :: b :: e :: r) 0 0 = a := rfl
      have g1 : List.getD (a :: b :: e :: r) 1 0 = b := rfl
      have g2 : List.getD (a :: b :: e :: r) 2 0 = e := rfl
      rw [g0] at ha; rw [g1] at hb; rw [g2] at hd; rw [g0, g1, g2] at hc; rw [g0, g1] at hlo hhi
      rw [hc, hk]
      refine ⟨?_, by omega⟩
      unfold enc8
      rw [if_neg (by omega), if_neg (by omega), if_pos (by omega), show 224 + ((a.toNat % 16 * 64 + b.toNat % 64) * 64 + e.toNat % 64) / 4096 = a.toNat by omega, show 128 + ((a.toNat % 16 * 64 + b.toNat % 64) * 64 + e.toNat % 64) / 64 % 64 = b.toNat by omega, show 128 + ((a.toNat % 16 * 64 + b.toNat % 64) * 64 + e.toNat % 64) % 64 = e.toNat by omega, ofN, ofN, ofN]; rfl
  · have hk := c.k; have ha := c.a; have hb := c.b; have hd := c.c; have he := c.d; have hc := c.chr; have hlo := c.lo; have hhi := c.hi
    rw [hk] at hle
    match t, hle.2.1 with
    | a :: b :: e :: f :: r, _ =>
      have g0 : List.getD (a :: b :: e :: f :: r) 0 0 = a := rfl
      have g1 : List.getD (a :: b :: e :: f :: r) 1 0 = b := rfl
      have g2 : List.getD (a :: b :: e :: f :: r) 2 0 = e := rfl
      have g3 : List.getD (a :: b :: e :: f :: r) 3 0 = f := rfl
      rw [g0] at ha; rw [g1] at hb; rw [g2] at hd; rw [g3] at he; rw [g0, g1, g2, g3] at hc; rw [g0, g1] at hlo hhi
      rw [hc, hk]
      refine ⟨?_, by omega⟩
      unfold enc8
      rw [if_neg (by omega), if_neg (by omega), if_neg (by omega), show 240 + (((a.toNat % 8 * 64 + b.toNat % 64) * 64 + e.toNat % 64) * 64 + f.toNat % 64) / 262144 = a.toNat by omega, show 128 + (((a.toNat % 8 * 64 + b.toNat % 64) * 64 + e.toNat % 64) * 64 + f.toNat % 64) / 4096 % 64 = b.toNat by omega, show 128 + (((a.toNat % 8 * 64 + b.toNat % 64) * 64 + e.toNat % 64) * 64 + f.toNat % 64) / 64 % 64 = e.toNat by omega, show 128 + (((a.toNat % 8 * 64 + b.toNat % 64) * 64 + e.toNat % 64) * 64 + f.toNat % 64) % 64 = f.toNat by omega, ofN, ofN, ofN, ofN]; rfl
end Go.PW
namespace Go.PW
open Go
def coded (r : Str) : Option (Nat × Nat) :=
  if idxN r 125 < r.length ∧ List.getD r 0 0 = 123 then
    (match pnum 16 ((r.drop 1).take (idxN r 125 - 1)) with
      | some n => if vrune n = true ∧ (n < 32 ∨ 126 < n) then some (n, idxN r 125 + 1) else none
      | none => none)
  else none
def unq (r : Str) : Option Str :=
  if r.length = 0 then some []
  else if (List.getD r 0 0).toNat < 32 ∨ 126 < (List.getD r 0 0).toNat ∨ List.getD r 0 0 = 34 then none
  else if List.getD r 0 0 ≠ 92 then (unq (r.drop 1)).map ([List.getD r 0 0] ++ ·)
  else if 1 < r.length ∧ (List.getD r 1 0 = 34 ∨ List.getD r 1 0 = 92) then (unq (r.drop 2)).map ([List.getD r 1 0] ++ ·)
  else if 1 < r.length ∧ List.getD r 1 0 = 117 then
    (match coded (r.drop 2) with
      | some (c, n) => (unq (r.drop (2 + n))).map (enc8 c ++ ·)
      | none => none)
  else none
termination_by r.length
decreasing_by all_goals (simp; omega)
theorem unq_nil {r : Str} (h : r.length = 0) : unq r = some [] := by rw [unq, if_pos h]
theorem unq_bad {r : Str} (h : 0 < r.length) (h1 : (List.getD r 0 0).toNat < 32 ∨ 126 < (List.getD r 0 0).toNat ∨ List.getD r 0 0 = 34) : unq r = none := by rw [unq, if_neg (by omega), if_pos h1]
theorem unq_one {r : Str} (h : 0 < r.length) (h1 : ¬((List.getD r 0 0).toNat < 32 ∨ 126 < (List.getD r 0 0).toNat ∨ List.getD r 0 0 = 34)) (h2 : List.getD r 0 0 ≠ 92) : unq r = (unq (r.drop 1)).map ([List.getD r 0 0] ++ ·) := by rw [unq, if_neg (by omega), if_neg h1, if_pos h2]
theorem sl_plain {r : Str} (h : List.getD r 0 0 = 92) : ¬((List.getD r 0 0).toNat < 32 ∨ 126 < (List.getD r 0 0).toNat ∨ List.getD r 0 0 = 34) := by rw [h]; decide
theorem unq_two {r : Str} (h : 1 < r.length) (h1 : List.getD r 0 0 = 92) (h2 : List.getD r 1 0 = 34 ∨ List.getD r 1 0 = 92) : unq r = (unq (r.drop 2)).map ([List.getD r 1 0] ++ ·) := by
  rw [unq, if_neg (by omega), if_neg (sl_plain h1), if_neg (by simpa using h1), if_pos ⟨h, h2⟩]
theorem unq_u {r : Str} (h : 1 < r.length) (h1 : List.getD r 0 0 = 92) (h2 : List.getD r 1 0 = 117) : unq r = (match coded (r.drop 2) with | some (c, n) => (unq (r.drop (2 + n))).map (enc8 c ++ ·) | none => none) := by
  rw [unq, if_neg (by omega), if_neg (sl_plain h1), if_neg (by simpa using h1), if_neg (by rw [h2]; simp), if_pos ⟨h, h2⟩]
theorem unq_no {r : Str} (h : 0 < r.length) (h1 : List.getD r 0 0 = 92) (h2 : ¬(1 < r.length ∧ (List.getD r 1 0 = 34 ∨ List.getD r 1 0 = 92))) (h3 : ¬(1 < r.length ∧ List.getD r 1 0 = 117)) : unq r = none := by
  rw [unq, if_neg (by omega), if_neg (sl_plain h1), if_neg (by simpa using h1), if_neg h2, if_neg h3]
theorem idxN_app (a : Str) (c : UInt8) (r : Str) (h : ∀ x ∈ a, x ≠ c) : idxN (a ++ c :: r) c = a.length := by
  unfold idxN
  induction a with
  | nil => simp
  | cons x a ih =>
    have hx : (x != c) = true := by simpa using h x (by simp)
    rw [List.cons_append, List.takeWhile_cons_of_pos (p := fun x => x != c) hx]
    simpa using ih fun y hy => h y (by simp [hy])
theorem coded_fmt {n : Nat} (hv : vrune n = true) (hp : n < 32 ∨ 126 < n) (rest : Str) : coded ([123] ++ fmtN 16 n ++ 125 :: rest) = some (n, (fmtN 16 n).length + 2) := by
  have hi : idxN ([123] ++ fmtN 16 n ++ 125 :: rest) 125 = (fmtN 16 n).length + 1 := by
    rw [idxN_app]
    · simp
    · intro x hx
      rcases List.mem_append.1 hx with h | h
      · rw [List.mem_singleton] at h; subst h; decide
      · exact fmt16_mem h
  unfold coded
  rw [hi, if_pos ⟨by simp, rfl⟩]
  have e : ((([123] ++ fmtN 16 n ++ 125 :: rest).drop 1).take ((fmtN 16 n).length + 1 - 1)) = fmtN 16 n := by simp
  have hn : n < 18446744073709551616 := by rw [vrune_iff] at hv; omega
  rw [e, pnum_fmt (by omega) (by omega) hn]
  simp only
  rw [if_pos ⟨hv, hp⟩]
theorem unq_qbody : ∀ (k : Nat) (t : Str), t.length ≤ k → u8ok t = true → unq (qbody t) = some t
  | k, t, hk, h => by
    by_cases h0 : t.length = 0
    · rw [qbody_nil h0, unq_nil rfl, List.eq_nil_of_length_eq_zero h0]
    · have hl : 0 < t.length := by omega
      have hs := u8ok_step h hl
      have hle := u8step_le hs hl
      cases k with
      | zero => omega
      | succ k =>
        have ih := unq_qbody k (t.drop (u8step t)) (by rw [List.length_drop]; omega) (u8ok_rest h hl)
        obtain ⟨he, hv⟩ := chr_enc hs hl
        have hlt := chr_lt t
        rw [qbody_go hs hl]
        generalize hq : qbody (t.drop (u8step t)) = r at ih ⊢
        by_cases hc : chr t = 34 ∨ chr t = 92
        · have ha := chr_asc hs (by omega)
          have hb := bn (n := chr t) (by omega)
          rw [qstep_q hc]
          have g1 : List.getD ([92, UInt8.ofNat (chr t)] ++ r) 1 0 = UInt8.ofNat (chr t) := rfl
          rw [unq_two (by simp) rfl (by rw [g1]; rcases hc with hc | hc <;> rw [hc] <;> simp), g1]
          have : ([92, UInt8.ofNat (chr t)] ++ r).drop 2 = r := rfl
          rw [this, ih]
          show some ([UInt8.ofNat (chr t)] ++ t.drop (u8step t)) = some t
          rw [ha.1, ← chr_take hs hl (by omega), List.take_append_drop]
        · by_cases hp : 32 ≤ chr t ∧ chr t ≤ 126
          · have ha := chr_asc hs (by omega)
            have hb := bn (n := chr t) (by omega)
            rw [qstep_p hc hp]
            have g0 : List.getD ([UInt8.ofNat (chr t)] ++ r) 0 0 = UInt8.ofNat (chr t) := rfl
            have hne : ∀ m : Nat, m < 256 → chr t ≠ m → UInt8.ofNat (chr t) ≠ UInt8.ofNat m := fun m hm hne e => hne (by
              have := congrArg UInt8.toNat e; rw [hb, bn hm] at this; exact this)
            rw [unq_one (by simp) (by rw [g0, hb]; intro h; rcases h with h | h | h; omega; omega; exact hne 34 (by omega) (by omega) h) (by rw [g0]; exact hne 92 (by omega) (by omega)), g0]
            have : ([UInt8.ofNat (chr t)] ++ r).drop 1 = r := rfl
            rw [this, ih]
            show some ([UInt8.ofNat (chr t)] ++ t.drop (u8step t)) = some t
            rw [ha.1, ← chr_take hs hl (by omega), List.take_append_drop]
          · rw [qstep_u hc hp]
            have e : [92, 117, 123] ++ fmtN 16 (chr t) ++ [125] ++ r = 92 :: 117 :: ([123] ++ fmtN 16 (chr t) ++ 125 :: r) := by simp
            rw [e, unq_u (by simp) rfl rfl]
            have hd : (92 :: 117 :: ([123] ++ fmtN 16 (chr t) ++ 125 :: r)).drop 2 = [123] ++ fmtN 16 (chr t) ++ 125 :: r := rfl
            rw [hd, coded_fmt hv (by omega)]
            simp only
            have hd2 : (92 :: 117 :: ([123] ++ fmtN 16 (chr t) ++ 125 :: r)).drop (2 + ((fmtN 16 (chr t)).length + 2)) = r := by
              rw [← List.drop_drop, hd]
              have : [123] ++ fmtN 16 (chr t) ++ 125 :: r = ([123] ++ fmtN 16 (chr t) ++ [125]) ++ r := by simp
              rw [this]
              exact List.drop_left' (by simp)
            rw [hd2, ih]
            show some (enc8 (chr t) ++ t.drop (u8step t)) = some t
            rw [he, List.take_append_drop]
theorem coded_some {r : Str} {c n : Nat} (h : coded r = some (c, n)) : vrune c = true ∧ (c < 32 ∨ 126 < c) ∧ n = (fmtN 16 c).length + 2 ∧ n ≤ r.length ∧ r = [123] ++ fmtN 16 c ++ [125] ++ r.drop n := by
  unfold coded at h
  by_cases h1 : idxN r 125 < r.length ∧ List.getD r 0 0 = 123
  · rw [if_pos h1] at h
    cases hp : pnum 16 ((r.drop 1).take (idxN r 125 - 1)) with
    | none => rw [hp] at h; cases h
    | some m =>
      rw [hp] at h
      simp only at h
      by_cases h2 : vrune m = true ∧ (m < 32 ∨ 126 < m)
      · rw [if_pos h2] at h
        cases h
        have hw := pnum_some hp
        have hi := idxN_spec r 125
        have hpos : 1 ≤ idxN r 125 := by
          rcases Nat.eq_zero_or_pos (idxN r 125) with h0 | h0
          · have := hi.2 h1.1; rw [h0, h1.2] at this; exact absurd this (by decide)
          · exact h0
        have hlen : (fmtN 16 c).length = idxN r 125 - 1 := by rw [← hw]; simp; omega
        refine ⟨h2.1, h2.2, by omega, by omega, ?_⟩
        have hr : r = r.take 1 ++ ((r.drop 1).take (idxN r 125 - 1) ++ ((r.drop (idxN r 125)).take 1 ++ r.drop (idxN r 125 + 1))) := by
          have e1 : r.drop (idxN r 125) = (r.drop (idxN r 125)).take 1 ++ r.drop (idxN r 125 + 1) := by rw [← List.drop_drop, List.take_append_drop]
          have e2 : r.drop 1 = (r.drop 1).take (idxN r 125 - 1) ++ r.drop (idxN r 125) := by
            conv => lhs; rw [← List.take_append_drop (idxN r 125 - 1) (r.drop 1)]
            rw [List.drop_drop, show 1 + (idxN r 125 - 1) = idxN r 125 by omega]
          rw [← e1, ← e2, List.take_append_drop]
        have t0 : r.take 1 = [123] := by
          cases r with
          | nil => simp at h1
          | cons a r => have : a = 123 := h1.2; subst this; rfl
        have t1 : (r.drop (idxN r 125)).take 1 = [125] := by
          have := hi.2 h1.1
          have e : r[idxN r 125]'h1.1 = 125 := by simpa [List.getD, h1.1] using this
          rw [List.drop_eq_getElem_cons h1.1, e]; rfl
        rw [t0, t1, hw] at hr
        conv => lhs; rw [hr]
        simp
      · rw [if_neg h2] at h; cases h
  · rw [if_neg h1] at h; cases h
theorem head_eq {r : Str} (h : 0 < r.length) : r = [List.getD r 0 0] ++ r.drop 1 := by
  cases r with
  | nil => simp at h
  | cons a r => rfl
theorem head2_eq {r : Str} (h : 1 < r.length) : r = [List.getD r 0 0, List.getD r 1 0] ++ r.drop 2 := by
  match r, h with
  | a :: b :: r, _ => rfl
theorem u8_cons {c : Nat} (hv : vrune c = true) {t : Str} (h : u8ok t = true) : u8ok (enc8 c ++ t) = true ∧ qbody (enc8 c ++ t) = qstep c ++ qbody t := by
  obtain ⟨h1, h2⟩ := enc8_read hv t
  have hl := enc8_len c
  have hs : u8step (enc8 c ++ t) ≠ 0 := by omega
  have hd : (enc8 c ++ t).drop (u8step (enc8 c ++ t)) = t := by rw [h1]; exact List.drop_left' rfl
  constructor
  · rw [← u8ok_go (u8step (enc8 c ++ t)) (by simp; omega) rfl (by omega), hd]; exact h
  · rw [qbody_go hs (by simp; omega), hd, h2]
theorem enc8_one (x : UInt8) (h : x.toNat < 128) : enc8 x.toNat = [x] := by unfold enc8; rw [if_pos h, ofN]
theorem unq_some : ∀ (k : Nat) (r t : Str), r.length ≤ k → unq r = some t → u8ok t = true ∧ qbody t = r
  | k, r, t, hk, h => by
    by_cases h0 : r.length = 0
    · rw [unq_nil h0] at h; cases h
      exact ⟨u8ok_nil rfl, by rw [qbody_nil rfl, List.eq_nil_of_length_eq_zero h0]⟩
    · have hl : 0 < r.length := by omega
      cases k with
      | zero => omega
      | succ k =>
        by_cases hb : (List.getD r 0 0).toNat < 32 ∨ 126 < (List.getD r 0 0).toNat ∨ List.getD r 0 0 = 34
        · rw [unq_bad hl hb] at h; cases h
        · by_cases h9 : List.getD r 0 0 ≠ 92
          · rw [unq_one hl hb h9] at h
            obtain ⟨t', ht, rfl⟩ := Option.map_eq_some_iff.1 h
            obtain ⟨i1, i2⟩ := unq_some k (r.drop 1) t' (by rw [List.length_drop]; omega) ht
            have hr : 32 ≤ (List.getD r 0 0).toNat ∧ (List.getD r 0 0).toNat ≤ 126 := by omega
            have h34 : (List.getD r 0 0).toNat ≠ 34 := fun e => hb (.inr (.inr (UInt8.toNat_inj.1 e)))
            have h92 : (List.getD r 0 0).toNat ≠ 92 := fun e => h9 (UInt8.toNat_inj.1 e)
            have hu := u8_cons (c := (List.getD r 0 0).toNat) (by rw [vrune_iff]; omega) i1
            rw [enc8_one _ (by omega)] at hu
            refine ⟨hu.1, ?_⟩
            rw [hu.2, i2, qstep_p (by omega) hr, ofN]
            exact (head_eq hl).symm
          · have h9' : List.getD r 0 0 = 92 := Decidable.byContradiction h9
            by_cases h2 : 1 < r.length ∧ (List.getD r 1 0 = 34 ∨ List.getD r 1 0 = 92)
            · rw [unq_two h2.1 h9' h2.2] at h
              obtain ⟨t', ht, rfl⟩ := Option.map_eq_some_iff.1 h
              obtain ⟨i1, i2⟩ := unq_some k (r.drop 2) t' (by rw [List.length_drop]; omega) ht
              have hc : (List.getD r 1 0).toNat = 34 ∨ (List.getD r 1 0).toNat = 92 := by rcases h2.2 with e | e <;> rw [e] <;> decide
              have hu := u8_cons (c := (List.getD r 1 0).toNat) (by rw [vrune_iff]; omega) i1
              rw [enc8_one _ (by omega)] at hu
              refine ⟨hu.1, ?_⟩
              rw [hu.2, i2, qstep_q hc, ofN]
              have := head2_eq h2.1
              rw [h9'] at this
              exact this.symm
            · by_cases h3 : 1 < r.length ∧ List.getD r 1 0 = 117
              · rw [unq_u h3.1 h9' h3.2] at h
                cases hcd : coded (r.drop 2) with
                | none => rw [hcd] at h; cases h
                | some p =>
                  obtain ⟨c, n⟩ := p
                  rw [hcd] at h
                  simp only at h
                  obtain ⟨t', ht, rfl⟩ := Option.map_eq_some_iff.1 h
                  obtain ⟨c1, c2, c3, c4, c5⟩ := coded_some hcd
                  obtain ⟨i1, i2⟩ := unq_some k (r.drop (2 + n)) t' (by rw [List.length_drop]; omega) ht
                  have hu := u8_cons c1 i1
                  refine ⟨hu.1, ?_⟩
                  rw [hu.2, i2, qstep_u (by omega) (by omega)]
                  have e := head2_eq h3.1
                  rw [h9', h3.2] at e
                  conv => rhs; rw [e, c5, List.drop_drop]
                  simp
              · rw [unq_no hl h9' h2 h3] at h; cases h
theorem unq_iff {r t : Str} : unq r = some t ↔ u8ok t = true ∧ r = qbody t := by
  constructor
  · intro h
    obtain ⟨h1, h2⟩ := unq_some r.length r t (Nat.le_refl _) h
    exact ⟨h1, h2.symm⟩
  · rintro ⟨h1, rfl⟩
    exact unq_qbody t.length t (Nat.le_refl _) h1
end Go.PW
namespace Go.PW
open Go
def blk (s : Str) (p : Nat) : Bool := decide (p < s.length) && decide (List.getD s p 0 = 32)
def wlen (s : Str) (p : Nat) : Nat := idxN (s.drop p) 32
def word (s : Str) (p : Nat) : Str := (s.drop p).take (wlen s p)
theorem wlen_le (s : Str) (p : Nat) : wlen s p ≤ s.length - p := by have := idxN_le (s.drop p) 32; rw [List.length_drop] at this; exact this
theorem word_length (s : Str) (p : Nat) : (word s p).length = wlen s p := by
  unfold word; rw [List.length_take, Nat.min_eq_left (by have := wlen_le s p; rw [List.length_drop]; exact this)]
abbrev PR (α : Type) := Sum Nat (α × Nat)
def numR (s : Str) (l m p : Nat) : PR Nat :=
  if blk s p = true then (match pnum 10 (word s (p + 1)) with
    | some n => if l ≤ n ∧ n ≤ m then .inr (n, p + 1 + wlen s (p + 1)) else .inl (p + 1)
    | none => .inl (p + 1))
  else .inl p
def hexR (s : Str) (n p : Nat) : PR Str :=
  if blk s p = true then (if wlen s (p + 1) = 2 * n ∧ hexok (word s (p + 1)) = true then .inr (word s (p + 1), p + 1 + wlen s (p + 1)) else .inl (p + 1)) else .inl p
def degB (w : Str) : F64 := ⟨UInt64.ofNat (hval w w.length)⟩
def qstop (s : Str) (i : Nat) : Nat :=
  if i < s.length ∧ List.getD s i 0 ≠ 34 then qstop s (i + (if List.getD s i 0 = 92 then 2 else 1)) else i
termination_by s.length - i
decreasing_by split <;> omega
theorem qstop_end {s : Str} {i : Nat} (h : ¬(i < s.length ∧ List.getD s i 0 ≠ 34)) : qstop s i = i := by rw [qstop, if_neg h]
theorem qstop_two {s : Str} {i : Nat} (h : i < s.length) (h1 : List.getD s i 0 = 92) : qstop s i = qstop s (i + 2) := by rw [qstop, if_pos ⟨h, by rw [h1]; decide⟩, if_pos h1]
theorem qstop_one {s : Str} {i : Nat} (h : i < s.length) (h0 : List.getD s i 0 ≠ 34) (h1 : List.getD s i 0 ≠ 92) : qstop s i = qstop s (i + 1) := by rw [qstop, if_pos ⟨h, h0⟩, if_neg h1]
theorem qstop_ge : ∀ (k : Nat) (s : Str) (i : Nat), s.length - i ≤ k → i ≤ qstop s i
  | k, s, i, hk => by
    by_cases h : i < s.length ∧ List.getD s i 0 ≠ 34
    · cases k with
      | zero => omega
      | succ k =>
        by_cases h1 : List.getD s i 0 = 92
        · rw [qstop_two h.1 h1]; have := qstop_ge k s (i + 2) (by omega); omega
        · rw [qstop_one h.1 h.2 h1]; have := qstop_ge k s (i + 1) (by omega); omega
    · rw [qstop_end h]; omega
theorem qstop_at : ∀ (k : Nat) (s : Str) (i : Nat), s.length - i ≤ k → qstop s i < s.length → List.getD s (qstop s i) 0 = 34
  | k, s, i, hk, hq => by
    by_cases h : i < s.length ∧ List.getD s i 0 ≠ 34
    · cases k with
      | zero => omega
      | succ k =>
        by_cases h1 : List.getD s i 0 = 92
        · rw [qstop_two h.1 h1] at hq ⊢; exact qstop_at k s (i + 2) (by omega) hq
        · rw [qstop_one h.1 h.2 h1] at hq ⊢; exact qstop_at k s (i + 1) (by omega) hq
    · rw [qstop_end h] at hq ⊢
      exact Decidable.byContradiction fun hn => h ⟨hq, hn⟩
def qin (s : Str) (a : Nat) : Str := (s.drop (a + 1)).take (qstop s (a + 1) - (a + 1))
def textR (s : Str) (lo hi p : Nat) : PR Str :=
  if blk s p = true then
    (if p + 1 < s.length ∧ List.getD s (p + 1) 0 = 34 ∧ qstop s (p + 2) < s.length then
      (match unq (qin s (p + 1)) with
        | some t => if lo ≤ t.length ∧ t.length ≤ hi then .inr (t, qstop s (p + 2) + 1) else .inl (p + 1)
        | none => .inl (p + 1))
    else .inl (p + 1))
  else .inl p
def marksR (s : Str) : Nat → List UInt32 → Nat → Nat → PR (List UInt32)
  | 0, _, _, _ => .inl 0
  | f + 1, l, least, p => match numR s least 4294967295 p with
    | .inl q => .inl q
    | .inr (n, q) => if l.length = 100 then .inl (p + 1) else if q < s.length then marksR s f (l ++ [UInt32.ofNat n]) (n + 1) q else .inr (l ++ [UInt32.ofNat n], q)
def bindR {α β : Type} (x : PR α) (f : α → Nat → PR β) : PR β := match x with | .inl q => .inl q | .inr (a, q) => f a q
def endR {α : Type} (s : Str) (q : Nat) (c : α) : PR α := if q < s.length then .inl q else .inr (c, q)
theorem bindR_l {α β : Type} {x : PR α} {f : α → Nat → PR β} {q : Nat} (h : x = .inl q) : bindR x f = .inl q := by subst h; rfl
theorem bindR_r {α β : Type} {x : PR α} {f : α → Nat → PR β} {a : α} {q : Nat} (h : x = .inr (a, q)) : bindR x f = f a q := by subst h; rfl
theorem endR_l {α : Type} {s : Str} {q : Nat} {c : α} (h : q < s.length) : endR s q c = .inl q := if_pos h
theorem endR_r {α : Type} {s : Str} {q : Nat} {c : α} (h : ¬ q < s.length) : endR s q c = .inr (c, q) := if_neg h
def mkKey (l : Str) : Key := if h : l.length = 32 then ⟨l, h⟩ else zarr
theorem mkKey_l {l : Str} (h : l.length = 32) : mkKey l = ⟨l, h⟩ := dif_pos h
theorem numR_no {s : Str} {l m p : Nat} (h : blk s p = false) : numR s l m p = .inl p := by unfold numR; rw [h]; rfl
theorem numR_ok {s : Str} {l m p n : Nat} (h : blk s p = true) (hn : pnum 10 (word s (p + 1)) = some n) (hb : l ≤ n ∧ n ≤ m) : numR s l m p = .inr (n, p + 1 + wlen s (p + 1)) := by
  unfold numR; rw [if_pos h, hn]; simp only; rw [if_pos hb]
theorem numR_bad {s : Str} {l m p : Nat} (h : blk s p = true) (hn : ∀ n, pnum 10 (word s (p + 1)) = some n → ¬(l ≤ n ∧ n ≤ m)) : numR s l m p = .inl (p + 1) := by
  unfold numR; rw [if_pos h]
  cases hp : pnum 10 (word s (p + 1)) with
  | none => rfl
  | some n => simp only; rw [if_neg (hn n hp)]
theorem numR_least {s : Str} {l m p n q : Nat} (h : numR s 0 m p = .inr (n, q)) : numR s l m p = if l ≤ n then .inr (n, q) else .inl (p + 1) := by
  unfold numR at h ⊢
  by_cases hb : blk s p = true
  · rw [if_pos hb] at h ⊢
    cases hp : pnum 10 (word s (p + 1)) with
    | none => rw [hp] at h; cases h
    | some k =>
      rw [hp] at h
      simp only at h ⊢
      by_cases h2 : 0 ≤ k ∧ k ≤ m
      · rw [if_pos h2] at h; cases h
        by_cases h3 : l ≤ n
        · rw [if_pos ⟨h3, h2.2⟩, if_pos h3]
        · rw [if_neg (fun h => h3 h.1), if_neg h3]
      · rw [if_neg h2] at h; cases h
  · rw [if_neg hb] at h; cases h
theorem numR_least_l {s : Str} {l m p q : Nat} (h : numR s 0 m p = .inl q) : numR s l m p = .inl q := by
  unfold numR at h ⊢
  by_cases hb : blk s p = true
  · rw [if_pos hb] at h ⊢
    cases hp : pnum 10 (word s (p + 1)) with
    | none => rw [hp] at h; exact h
    | some k =>
      rw [hp] at h
      simp only at h ⊢
      by_cases h2 : 0 ≤ k ∧ k ≤ m
      · rw [if_pos h2] at h; cases h
      · rw [if_neg h2] at h; rw [if_neg (by omega)]; exact h
  · rw [if_neg hb] at h ⊢; exact h
theorem numR_next {s : Str} {l m p n q : Nat} (h : numR s l m p = .inr (n, q)) : p < q ∧ q ≤ s.length ∧ l ≤ n ∧ n ≤ m := by
  unfold numR at h
  by_cases hb : blk s p = true
  · rw [if_pos hb] at h
    have hp : p < s.length := by simp only [blk, Bool.and_eq_true, decide_eq_true_eq] at hb; exact hb.1
    cases hpn : pnum 10 (word s (p + 1)) with
    | none => rw [hpn] at h; cases h
    | some k =>
      rw [hpn] at h
      simp only at h
      by_cases h2 : l ≤ k ∧ k ≤ m
      · rw [if_pos h2] at h; cases h
        have := wlen_le s (p + 1)
        exact ⟨by omega, by omega, h2.1, h2.2⟩
      · rw [if_neg h2] at h; cases h
  · rw [if_neg hb] at h; cases h
theorem hexR_no {s : Str} {n p : Nat} (h : blk s p = false) : hexR s n p = .inl p := by unfold hexR; rw [h]; rfl
theorem hexR_ok {s : Str} {n p : Nat} (h : blk s p = true) (h1 : wlen s (p + 1) = 2 * n) (h2 : hexok (word s (p + 1)) = true) : hexR s n p = .inr (word s (p + 1), p + 1 + wlen s (p + 1)) := by
  unfold hexR; rw [if_pos h, if_pos ⟨h1, h2⟩]
theorem hexR_bad {s : Str} {n p : Nat} (h : blk s p = true) (h1 : ¬(wlen s (p + 1) = 2 * n ∧ hexok (word s (p + 1)) = true)) : hexR s n p = .inl (p + 1) := by
  unfold hexR; rw [if_pos h, if_neg h1]
theorem textR_no {s : Str} {lo hi p : Nat} (h : blk s p = false) : textR s lo hi p = .inl p := by unfold textR; rw [h]; rfl
theorem textR_out {s : Str} {lo hi p : Nat} (h : blk s p = true) (h1 : ¬(p + 1 < s.length ∧ List.getD s (p + 1) 0 = 34 ∧ qstop s (p + 2) < s.length)) : textR s lo hi p = .inl (p + 1) := by
  unfold textR; rw [if_pos h, if_neg h1]
theorem textR_bad {s : Str} {lo hi p : Nat} (h : blk s p = true) (h1 : ∀ t, unq (qin s (p + 1)) = some t → ¬(lo ≤ t.length ∧ t.length ≤ hi)) : textR s lo hi p = .inl (p + 1) := by
  unfold textR; rw [if_pos h]
  split
  · cases hu : unq (qin s (p + 1)) with
    | none => rfl
    | some t => simp only; rw [if_neg (h1 t hu)]
  · rfl
theorem textR_ok {s : Str} {lo hi p : Nat} {t : Str} (h : blk s p = true) (h1 : p + 1 < s.length ∧ List.getD s (p + 1) 0 = 34 ∧ qstop s (p + 2) < s.length) (h2 : unq (qin s (p + 1)) = some t) (h3 : lo ≤ t.length ∧ t.length ≤ hi) : textR s lo hi p = .inr (t, qstop s (p + 2) + 1) := by
  unfold textR; rw [if_pos h, if_pos h1, h2]; simp only; rw [if_pos h3]
end Go.PW
namespace Go.Proofs.YtakbbpahfclgnaaGreatDoor
open Go Go.Proofs Go.PW
open Go.PW.Enc (enc val)
theorem slIndexByte_ct (s : Str) (c : UInt8) : Ct Tryz.prog 98 [strV s, .int .u8 (c.toNat : Int)] [] [] (fun v o r => v = .int .i64 (idxB s c) ∧ o = [] ∧ r = []) := by
 refine ct_enter Tryz.func98 rfl Tryz.ntmps98 (by kernel_rfl) rfl fun w0 => ?_
 refine csr <| agi rfl <| jsr <| mvs rfl <| mvi rfl <| xcal (args := [strV s, .int .u8 (c.toNat : Int)]) (.int .i64 (idxB s c)) Tryz.func121 (by kernel_rfl) (by kernel_rfl) (by kernel_rfl) (fun w => run_indexByte s c w) (by kernel_rfl) rfl <| agi rfl <| jt <| c_ret ?_
 exact j_z (own0 := []) (ro0 := []) (.inl rfl) rfl (hr1 Tryz.results98 (rvt (v := (.int _ _)) rfl)) rfl (⟨rfl, rfl, rfl⟩)
theorem sIndexByte_ct (s : Str) (c : UInt8) : Ct Tryz.prog 109 [strV s, .int .u8 (c.toNat : Int)] [] [] (fun v o r => v = .int .i64 (idxB s c) ∧ o = [] ∧ r = []) := by
 refine ct_enter Tryz.func109 rfl Tryz.ntmps109 (by kernel_rfl) rfl fun w0 => ?_
 refine csr <| agi rfl <| jsr <| mvs rfl <| mvi rfl <| cal (slIndexByte_ct s c) [] [] [] rfl rfl rfl (by kernel_rfl) impl_nil rfl ?_; rintro _ _ _ ⟨rfl, rfl, rfl⟩; refine ⟨trivial, ?_⟩
 refine agi rfl <| jt <| c_ret ?_
 exact j_z (own0 := []) (ro0 := []) (.inl rfl) rfl (hr1 Tryz.results109 (rvt (v := (.int _ _)) rfl)) rfl (⟨rfl, rfl, rfl⟩)
theorem slIndex_ct (t : Str) : Ct Tryz.prog 63 [strV t, strV ([32] : Str)] [] [] (fun v o r => v = .int .i64 (idxB t 32) ∧ o = [] ∧ r = []) := by
 refine ct_enter Tryz.func63 rfl Tryz.ntmps63 (by kernel_rfl) rfl fun w0 => ?_
 refine csr <| agi rfl <| jsr <| mvs rfl <| lenC (s := ([32] : Str)) 1 rfl uy9 rfl <| agi rfl <| jt <| c_seq <| c_block <| csr <| mvi rfl <| cmp false rfl rfl rfl <| mvb rfl <| g_on rfl rfl rfl <| mvs rfl <| g_on rfl rfl rfl <| mvs rfl <| g_on rfl rfl rfl <| scmp (a := ([32] : Str)) (b := t) _ rfl rfl uy9 rfl <| pkf (.bool _) rfl rfl <| agb rfl <| jt <| c_cond rfl (fun h1 => ?_) (fun h1 => ?_)
 ·replace h1 := of_decide_eq_true h1
  refine csr <| agi rfl <| jt <| c_ret ?_
  exact j_z (own0 := []) (ro0 := []) (.inl rfl) rfl (hr1 Tryz.results63 (rvt (v := (.int _ _)) rfl)) rfl (⟨by rw [← h1]; rfl, rfl, rfl⟩)
 ·replace h1 := of_decide_eq_false h1
  refine csr <| mvi rfl <| cmp true rfl rfl rfl <| agb rfl <| jt <| c_true rfl <| csr <| mvs rfl <| mvs rfl <| idxT (s := ([32] : Str)) 0 rfl rfl uy9 rfl (by first | omega | (simp; done) | (simp; omega) | (simp at *; omega)) <| cal (slIndexByte_ct t (List.getD ([32] : Str) 0 0)) [] [] [] rfl rfl rfl (by kernel_rfl) impl_nil rfl ?_; rintro _ _ _ ⟨rfl, rfl, rfl⟩; refine ⟨trivial, ?_⟩
  refine agi rfl <| jt <| c_ret ?_
  exact j_z (own0 := []) (ro0 := []) (.inl rfl) rfl (hr1 Tryz.results63 (rvt (v := (.int _ _)) rfl)) rfl (⟨rfl, rfl, rfl⟩)
theorem slCut_ct (t : Str) (ht : t.length ≤ 9223372036854775806) : Ct Tryz.prog 38 [strV t, strV ([32] : Str)] [] [] (fun v o r => ∃ (a : Str) (f : Bool), v = .tuple #[strV (t.take (idxN t 32)), strV a, .bool f] ∧ o = [] ∧ r = []) := by
 have HL := idxN_le t 32
 refine ct_enter Tryz.func38 rfl Tryz.ntmps38 (by kernel_rfl) rfl fun w0 => ?_
 refine csr <| ags rfl <| ags rfl <| agb rfl <| jt <| c_seq <| csr <| mvs rfl <| mvs rfl <| cal (slIndex_ct t) [] [] [] rfl rfl rfl (by kernel_rfl) impl_nil rfl ?_; rintro _ _ _ ⟨rfl, rfl, rfl⟩; refine ⟨trivial, ?_⟩
 refine agi rfl <| jsr <| mvi rfl <| cmp _ rfl rfl rfl <| jt <| c_cond rfl (fun h1 => ?_) (fun h1 => ?_)
 ·replace h1 := of_decide_eq_true h1
  refine c_seq ?_
  have HI := idxB_at h1
  have HJ := idxB_lt h1
  refine c_dr [] [] [(0, 0), (1, 0), (2, 0), (3, 0), (4, 0), (5, 0), (6, 0), (7, 0), (8, 0), (9, 0), (10, 0), (11, 0)] follows (by kernel_rfl) calm_body (keepS [] rfl) <| mvs rfl <| mvi rfl <| cutT (s := t) 0 (idxN t 32) rfl uy9 rfl ⟨_, congrArg (Value.int _) (by omega)⟩ (by first | omega | (simp; done) | (simp; omega)) (by first | omega | (simp; done) | (simp; omega)) (List.take (idxN t 32) t) (cut_lo _ _) <| mvs rfl <| mvi rfl <| mvs rfl <| lenC (s := ([32] : Str)) 1 rfl uy9 rfl <| addi rfl rfl rfl (by omega) <| cutT (s := t) (idxN t 32 + 1) t.length rfl uy9 ⟨_, congrArg (Value.int _) (by omega)⟩ rfl (by omega) (by omega) (List.drop (idxN t 32 + 1) t) (cut_hi _ _) <| ags rfl <| ags rfl <| agb rfl <| jt <| c_ret ?_
  exact j_z (own0 := []) (ro0 := []) (.inl rfl) rfl (hr3 Tryz.results38 (rvt (v := (.string _)) rfl) (rvt (v := (.string _)) rfl) (rvt (v := (.bool _)) rfl)) rfl (⟨_, _, rfl, rfl, rfl⟩)
 ·replace h1 := of_decide_eq_false h1
  refine c_skip <| e_then <| csr <| mvs rfl <| ags rfl <| ags rfl <| agb rfl <| jt <| c_ret ?_
  exact j_z (own0 := []) (ro0 := []) (.inl rfl) rfl (hr3 Tryz.results38 (rvt (v := (.string _)) rfl) (rvt (v := (.string _)) rfl) (rvt (v := (.bool _)) rfl)) rfl (⟨[], false, by rw [idxN_all h1, List.take_length], rfl, rfl⟩)
theorem sCut_ct (t : Str) (ht : t.length ≤ 9223372036854775806) : Ct Tryz.prog 23 [strV t, strV ([32] : Str)] [] [] (fun v o r => ∃ (a : Str) (f : Bool), v = .tuple #[strV (t.take (idxN t 32)), strV a, .bool f] ∧ o = [] ∧ r = []) := by
 refine ct_enter Tryz.func23 rfl Tryz.ntmps23 (by kernel_rfl) rfl fun w0 => ?_
 refine csr <| ags rfl <| ags rfl <| agb rfl <| jsr <| mvs rfl <| mvs rfl <| cal (slCut_ct t ht) [] [] [] rfl rfl rfl (by kernel_rfl) impl_nil rfl ?_; rintro _ _ _ ⟨ca1, cf1, rfl, rfl, rfl⟩; refine ⟨trivial, ?_⟩
 refine xtr (.string _) rfl rfl <| xtr (.string _) rfl rfl <| xtr (.bool _) rfl rfl <| ags rfl <| ags rfl <| agb rfl <| jt <| c_ret ?_
 exact j_z (own0 := []) (ro0 := []) (.inl rfl) rfl (hr3 Tryz.results23 (rvt (v := (.string _)) rfl) (rvt (v := (.string _)) rfl) (rvt (v := (.bool _)) rfl)) rfl (⟨_, _, rfl, rfl, rfl⟩)
end Go.Proofs.YtakbbpahfclgnaaGreatDoor
namespace Go.PW
open Enc (enc val)
open Go Go.ChangeShapes Go.WideShapes Go.RowKit Go.Deep
section
variable {P : Program}
def OpnD (P : Program) (t : TypeId) (α : Type) [Enc α] (dat : α → DataW Unit) : Prop := ∀ {encH : TypeId × Value → Unit} {w : World} {base : Nat} {sp : Nat → Bool} {held : Bool} {fuel : Nat} {cs : List Value} {d : DataW Unit} {p : List MemPlace},
  DataW.trod encH P w base sp held fuel t cs = some (d, p) → ∃ a : α, cs = enc a ∧ d = dat a
def dU8 (x : UInt8) : DataW Unit := .lit (.int .u8 x.toNat)
def dU64 (x : UInt64) : DataW Unit := .lit (.int .u64 x.toNat)
def dArr {α : Type} {n : Nat} (f : α → DataW Unit) (x : Arr α n) : DataW Unit := .agg (x.l.map f)
theorem opnD_u8 {t} (hu : P.underlying t = some (.int .u8)) : OpnD P t UInt8 dU8 := fun hx => by
  obtain ⟨n, rfl, e, hw⟩ := DataW.trod_int hu hx
  have : 0 ≤ n ∧ n ≤ 255 := by simpa [Lit.wf, IntKind.min, IntKind.max, IntKind.signed, IntKind.bits] using hw
  have e2 : n = ((UInt8.ofNat n.toNat).toNat : Int) := by rw [UInt8.toNat_ofNat_of_lt' (by show n.toNat < 256; omega)]; omega
  refine ⟨UInt8.ofNat n.toNat, ?_, ?_⟩
  · show _ = [Value.int .u8 _]; rw [← e2]
  · unfold dU8; rw [← e2]; exact congrArg (·.1) e
theorem opnD_u64 {t} (hu : P.underlying t = some (.int .u64)) : OpnD P t UInt64 dU64 := fun hx => by
  obtain ⟨n, rfl, e, hw⟩ := DataW.trod_int hu hx
  have : 0 ≤ n ∧ n ≤ 18446744073709551615 := by simpa [Lit.wf, IntKind.min, IntKind.max, IntKind.signed, IntKind.bits] using hw
  have e2 : n = ((UInt64.ofNat n.toNat).toNat : Int) := by rw [UInt64.toNat_ofNat_of_lt' (by show n.toNat < 18446744073709551616; omega)]; omega
  refine ⟨UInt64.ofNat n.toNat, ?_, ?_⟩
  · show _ = [Value.int .u64 _]; rw [← e2]
  · unfold dU64; rw [← e2]; exact congrArg (·.1) e
theorem chunksD {α : Type} [Enc α] {f : α → DataW Unit} : ∀ (n : Nat) (cs : List Value) (xs : List (DataW Unit)), cs.length = n * Enc.n α → xs.length = n → (∀ i (h : i < xs.length), ∃ a : α, (cs.drop (i * Enc.n α)).take (Enc.n α) = enc a ∧ xs[i] = f a) →
    ∃ l : List α, l.length = n ∧ cs = encs l ∧ xs = l.map f
  | 0, cs, xs, hl, hx, _ => ⟨[], rfl, by rw [Nat.zero_mul] at hl; exact List.eq_nil_of_length_eq_zero hl, by simpa using hx⟩
  | n + 1, cs, [], _, hx, _ => by simp at hx
  | n + 1, cs, x :: xs, hl, hx, h => by
    obtain ⟨a, ha, hfa⟩ := h 0 (Nat.succ_pos _)
    obtain ⟨l, h1, h2, h3⟩ := chunksD (α := α) (f := f) n (cs.drop (Enc.n α)) xs (by rw [List.length_drop, hl, Nat.succ_mul]; omega) (by simpa using hx) fun i hi => by
      obtain ⟨b, hb, hfb⟩ := h (i + 1) (by simpa using hi)
      exact ⟨b, by rw [List.drop_drop, ← hb, Nat.succ_mul, Nat.add_comm], by simpa using hfb⟩
    refine ⟨a :: l, by simp [h1], ?_, by simp only [List.map_cons, ← h3]; rw [← hfa]; rfl⟩
    simp only [Nat.zero_mul, List.drop_zero] at ha
    show cs = (a :: l).flatMap enc
    rw [List.flatMap_cons, ← ha]
    show cs = _ ++ encs l
    rw [← h2, List.take_append_drop]
theorem opnD_arr {t e : TypeId} {n : Nat} {α : Type} [Enc α] {f : α → DataW Unit} (hu : P.underlying t = some (.array n e)) (hc : P.cellsOf e = Enc.n α) (hs : P.cellsOf t = n * Enc.n α) (h : OpnD P e α f) : OpnD P t (Arr α n) (dArr f) := by
  intro encH w base sp held fuel cs d p hx
  obtain ⟨xs, m, _, hd, hl, hlen, hf⟩ := DataW.trod_array hu hx
  obtain ⟨l, h1, h2, h3⟩ := chunksD (f := f) n cs (xs.map (·.1)) (by rw [hl, hs]) (by simp [hlen]) fun i hi => by
    have hi' : i < xs.length := by simpa using hi
    have := hf i (by omega)
    rw [List.getElem?_eq_getElem hi', hc] at this
    obtain ⟨a, ha, hb⟩ := h (d := xs[i].1) (p := xs[i].2) this
    exact ⟨a, ha, by simpa using hb⟩
  exact ⟨⟨l, h1⟩, h2, (congrArg (·.1) hd).trans (congrArg DataW.agg h3)⟩
theorem dU8_inj {a b : UInt8} (h : dU8 a = dU8 b) : a = b := by
  simp only [dU8, DataW.lit.injEq, Lit.int.injEq, true_and] at h
  exact UInt8.toNat_inj.1 (by omega)
theorem dU64_inj {a b : UInt64} (h : dU64 a = dU64 b) : a = b := by
  simp only [dU64, DataW.lit.injEq, Lit.int.injEq, true_and] at h
  exact UInt64.toNat_inj.1 (by omega)
theorem dArr_inj {α : Type} {n : Nat} {f : α → DataW Unit} (hf : ∀ {a b}, f a = f b → a = b) {a b : Arr α n} (h : dArr f a = dArr f b) : a = b := by
  simp only [dArr, DataW.agg.injEq] at h
  exact Arr.ext (List.map_inj_right (fun _ _ => hf) |>.1 h)
theorem laid_row {α : Type} [Enc α] {n : Nat} {f : α → DataW Unit} {w : World} {name : String} {d : DataW Unit} {g t : Nat} (x : Arr α n) (hg : P.globalNamed name = some g) (ht : (P.globals[g]?).map (·.type) = some t) (ho : OpnD P t (Arr α n) (dArr f)) (hf : ∀ {a b}, f a = f b → a = b) (hd : d = dArr f x)
    (h : ∃ g t cs fuel p, P.globalNamed name = some g ∧ (P.globals[g]?).map (·.type) = some t ∧ w.var? P name = some cs ∧ DataW.trod (fun _ => ()) P w 0 (fun _ => true) false fuel t cs.toList = some (d, p)) : SegIn w [(g, .view 0 (encs x.l))] := by
  obtain ⟨g', t', cs, fuel, p, h1, h2, h3, h4⟩ := h
  obtain rfl := Option.some.inj (hg.symm.trans h1)
  obtain rfl := Option.some.inj (ht.symm.trans h2)
  obtain ⟨a, e1, e2⟩ := ho h4
  have e3 : a = x := dArr_inj hf (e2.symm.trans hd)
  subst e3
  intro q hq
  rw [List.mem_singleton] at hq; subst hq
  unfold World.var? at h3
  rw [hg] at h3
  simp only [Option.bind_some] at h3
  cases hh : w.heap[g]? with
  | none => rw [hh] at h3; cases h3
  | some o =>
    rw [hh] at h3
    cases o with
    | cells c E fr =>
      simp only [Option.some.injEq] at h3
      subst h3
      refine ⟨_, rfl, _, _, _, rfl, fun i v hv => ?_⟩
      have e4 : c = ⟨encs a.l⟩ := by apply Array.ext'; exact e1
      rw [e4, Nat.zero_add]; simpa using hv
    | _ => cases h3
theorem laid_one {w : World} {name : String} {d : DataW Unit} {l : List (String × DataW Unit)} : ∀ {ps : List MemPlace}, DataW.LaidVars P w l ps → (name, d) ∈ l →
    ∃ g t cs fuel p, P.globalNamed name = some g ∧ (P.globals[g]?).map (·.type) = some t ∧ w.var? P name = some cs ∧ DataW.trod (fun _ => ()) P w 0 (fun _ => true) false fuel t cs.toList = some (d, p) := by
  induction l with
  | nil => intro ps _ h; cases h
  | cons x r ih =>
    intro ps h hm
    obtain ⟨n, d'⟩ := x
    obtain ⟨g, t, cs, fuel, p, q, h1, h2, h3, h4, h5, _⟩ := h
    rcases List.mem_cons.1 hm with e | hm
    · simp only [Prod.mk.injEq] at e; obtain ⟨rfl, rfl⟩ := e
      exact ⟨g, t, cs, fuel, p, h1, h2, h3, h4⟩
    · exact ih h5 hm
end
end Go.PW
namespace Go.PW
open Enc (enc val)
open Go
section
variable {cx : Cx} {md : Md} {ops : Array Oper} {Q : Exit → Act → World → Prop} {rest : List (Oper × Nat)} {kq : Nat} {base : Nat → Value} {L : List (Nat × Value)} {own ro : List Seg}
variable {q : Nat} {d : Nat} {ty : TypeId} {pos : String} {aft : Array Edge} {x y z : Operand} {xt yt : TypeId} {k k2 : IntKind}
theorem negU {a : UInt64} (hx : ev cx.n base L x = .int .u64 (a.toNat : Int)) (h : JG cx md ops Q rest base ((d, .int .u64 ((0 - a).toNat : Int)) :: L) own ro) : JG cx md ops Q ((⟨some d, .unOp .neg xt x, ty, pos, aft, none⟩, q) :: rest) base L own ro :=
  negC (((0 - a).toNat : Nat) : Int) hx (by
    have ha := a.toNat_lt
    rw [wrapU64, UInt64.toNat_sub]
    show (0 - (a.toNat : Int)) % 18446744073709551616 = (((2 ^ 64 - a.toNat + (0 : UInt64).toNat) % 2 ^ 64 : Nat) : Int)
    rw [show (0 : UInt64).toNat = 0 from rfl]; omega) h
theorem ldv1 {t bk : Nat} {v : Value} (j : Nat) (hx : ev cx.n base L x = .pointer (some ⟨bk, 0, none⟩)) (h1 : v.oneCell' = true) (hs : (Src md q own ro)[j]? = some [(bk, .view 0 [v])]) (ht : Ty cx.P t 1 false)
    (h : JG cx md ops Q rest base ((d, v) :: L) own ro) : JG cx md ops Q ((⟨some d, .load t x, ty, pos, aft, none⟩, q) :: rest) base L own ro :=
  ldg (p := p1 v h1) hx (List.mem_of_getElem? hs) ht (fun w hw => cellsAt_view hw (List.mem_singleton.2 rfl) (pre := []) (post := []) (by simp [p1]) rfl) h
end
def tIf (b : Nat) (u : TypeId) (v : Value) : Seg := [(b, .view 0 [.iface u v])]
theorem laid_if {P : Program} {w : World} {name nm : String} {d : DataW Unit} {g t : Nat} {ms} (hg : P.globalNamed name = some g) (ht : (P.globals[g]?).map (·.type) = some t) (hu : P.underlying t = some (.interface ms))
    (h : ∃ g t cs fuel p, P.globalNamed name = some g ∧ (P.globals[g]?).map (·.type) = some t ∧ w.var? P name = some cs ∧ DataW.trod (fun _ => ()) P w 0 (fun _ => true) false fuel t cs.toList = some (.iface nm d, p)) : ∃ u v, SegIn w (tIf g u v) := by
  obtain ⟨g', t', cs, fuel, p, h1, h2, h3, h4⟩ := h
  obtain rfl := Option.some.inj (hg.symm.trans h1)
  obtain rfl := Option.some.inj (ht.symm.trans h2)
  obtain ⟨_, u, v, hc, _, _⟩ := iface_of_trod hu h4
  refine ⟨u, v, ?_⟩
  intro q hq
  unfold tIf at hq
  rw [List.mem_singleton] at hq; subst hq
  unfold World.var? at h3
  rw [hg] at h3
  simp only [Option.bind_some] at h3
  cases hh : w.heap[g]? with
  | none => rw [hh] at h3; cases h3
  | some o =>
    rw [hh] at h3
    cases o with
    | cells c E fr =>
      simp only [Option.some.injEq] at h3
      subst h3
      refine ⟨_, rfl, _, _, _, rfl, fun i v' hv => ?_⟩
      have e4 : c = ⟨[.iface u v]⟩ := by apply Array.ext'; exact hc
      rw [e4, Nat.zero_add]; simpa using hv
    | _ => cases h3
theorem digs_get (b : Nat) : ∀ (k n i : Nat), i < k → List.getD (digs b k n) i 0 = dch (n / b ^ (k - 1 - i) % b)
  | 0, _, _, h => by omega
  | k + 1, n, i, h => by
    rw [digs]
    by_cases hi : i < k
    · have hl : i < (digs b k (n / b)).length := by rw [digs_length]; exact hi
      have e : List.getD (digs b k (n / b) ++ [dch (n % b)]) i 0 = List.getD (digs b k (n / b)) i 0 := by
        simp only [List.getD_eq_getElem?_getD]; rw [List.getElem?_append_left hl]
      rw [e, digs_get b k (n / b) i hi, Nat.div_div_eq_div_mul, ← Nat.pow_succ']
      congr 4; omega
    · obtain rfl : i = k := by omega
      have e : List.getD (digs b i (n / b) ++ [dch (n % b)]) i 0 = dch (n % b) := by
        simp only [List.getD_eq_getElem?_getD]; rw [List.getElem?_append_right (by rw [digs_length]; omega), digs_length]; simp
      rw [e, show i + 1 - 1 - i = 0 by omega, Nat.pow_zero, Nat.div_one]
theorem fmt_get {b m : Nat} {w : Str} (e : w = fmtN b m) {i : Nat} (hi : i < w.length) : List.getD w i 0 = dch (m / b ^ (w.length - 1 - i) % b) := by
  have hl : w.length = ndg b 64 m := by rw [e]; unfold fmtN; rw [digs_length]
  rw [hl] at hi ⊢
  rw [e]; exact digs_get b _ _ _ hi
theorem pu_step {b M m n i : Nat} {w : Str} (hb : 2 ≤ b) (e : w = fmtN b m) (hm : m ≤ M) (hi : i < w.length) (hn : n = m / b ^ (w.length - i)) : ∃ k, k < b ∧ List.getD w i 0 = dch k ∧ n * b + k = m / b ^ (w.length - (i + 1)) ∧ n * b + k ≤ M := by
  have h1 := fmt_get e hi
  refine ⟨m / b ^ (w.length - 1 - i) % b, Nat.mod_lt _ (by omega), h1, ?_, ?_⟩
  · rw [hn, show w.length - i = (w.length - (i + 1)) + 1 by omega, Nat.pow_succ, ← Nat.div_div_eq_div_mul, show w.length - 1 - i = w.length - (i + 1) by omega]
    have := Nat.div_add_mod (m / b ^ (w.length - (i + 1))) b
    rw [Nat.mul_comm]; exact this
  · have h2 : n * b + m / b ^ (w.length - 1 - i) % b = m / b ^ (w.length - (i + 1)) := by
      rw [hn, show w.length - i = (w.length - (i + 1)) + 1 by omega, Nat.pow_succ, ← Nat.div_div_eq_div_mul, show w.length - 1 - i = w.length - (i + 1) by omega]
      have := Nat.div_add_mod (m / b ^ (w.length - (i + 1))) b
      rw [Nat.mul_comm]; exact this
    rw [h2]; exact Nat.le_trans (Nat.div_le_self _ _) hm
theorem pu_start {b m : Nat} {w : Str} (hb : 2 ≤ b) (e : w = fmtN b m) (h : m < 18446744073709551616) : 0 = m / b ^ w.length := by
  rw [e, Nat.div_eq_of_lt (fmtN_lt hb (u64_pow hb h))]
theorem fmt_ne {b m : Nat} : fmtN b m ≠ [] := fun e => by have := (fmtN_length b m).1; rw [e] at this; simp at this
theorem dch_low : ∀ k, k < 16 → (48 ≤ (dch k).toNat ∧ (dch k).toNat ≤ 57 ∧ (dch k - 48).toNat = k) ∨ (¬ (dch k).toNat ≤ 57 ∧ 97 ≤ (dch k ||| 32).toNat ∧ (dch k ||| 32).toNat ≤ 122 ∧ ((dch k ||| 32) - 97 + 10).toNat = k) := by decide +kernel
theorem dch_sign : ∀ k, k < 16 → dch k ≠ 43 ∧ dch k ≠ 45 ∧ dch k ≠ 95 := by decide
end Go.PW
namespace Go.Proofs.YtakbbpahfclgnaaGreatDoor
open Go Go.Proofs Go.PW
open Go.PW.Enc (enc val)
theorem lower_ct (c : UInt8) : Ct Tryz.prog 145 [.int .u8 (c.toNat : Int)] [] [] (fun v o r => v = .int .u8 ((c ||| 32).toNat : Int) ∧ o = [] ∧ r = []) := by
 refine ct_enter Tryz.func145 rfl Tryz.ntmps145 (by kernel_rfl) rfl fun w0 => ?_
 refine csr <| agi rfl <| jsr <| mvi rfl <| orU8 (a := c) (b := (32 : UInt8)) rfl rfl <| agi rfl <| jt <| c_ret ?_
 exact j_z (own0 := []) (ro0 := []) (.inl rfl) rfl (hr1 Tryz.results145 (rvt (v := (.int _ _)) rfl)) rfl (⟨rfl, rfl, rfl⟩)
theorem iParseUint10_ct (w : Str) (hw : w.length ≤ 9223372036854775806) : Ct Tryz.prog 132 [strV w, .int .i64 10, .int .i64 64] [] [] (fun v o r => (∃ n : UInt64, (∀ m, m ≤ 18446744073709551615 → w = fmtN 10 m → n.toNat = m) ∧ v = .tuple #[.int .u64 (n.toNat : Int), .nilIface] ∧ o = [] ∧ r = []) ∨ ((∀ m, m ≤ 18446744073709551615 → w ≠ fmtN 10 m) ∧ ∃ (n : UInt64) (c : Int), (c = 1 ∧ n.toNat = 18446744073709551615 ∨ c = 2) ∧ v = .tuple #[.int .u64 (n.toNat : Int), .iface 212 (.int .i64 c)] ∧ o = [] ∧ r = [])) := by
 refine ct_enter Tryz.func132 rfl Tryz.ntmps132 (by kernel_rfl) rfl fun w0 => ?_
 refine csr <| agi rfl <| asg .nilIface rfl <| jt <| c_seq <| csr <| mvs rfl <| scmp (a := w) (b := ([] : Str)) _ rfl rfl uy9 rfl <| jt <| c_cond rfl (fun h1 => ?_) (fun h1 => ?_)
 ·replace h1 := of_decide_eq_true h1
  refine csr <| mki (v := (.int _ _)) rfl uy212 rfl <| agi rfl <| asg (.iface _ _) rfl <| jt <| c_ret ?_
  exact j_z (own0 := []) (ro0 := []) (.inl rfl) rfl (hr2 Tryz.results132 (rvt (v := (.int _ _)) rfl) (rvt (v := (.iface _ _)) rfl)) rfl (.inr ⟨fun m hm e => by exact fmt_ne (e.symm.trans h1), (0 : UInt64), 2, .inr rfl, rfl, rfl, rfl⟩)
 ·replace h1 := of_decide_eq_false h1
  refine c_skip <| e_then <| csr <| mvi rfl <| cmp false rfl rfl rfl <| agb rfl <| jsr <| mvs rfl <| ags rfl <| jt <| c_seq <| c_block <| csr <| mvi rfl <| cmp true rfl rfl rfl <| mvb rfl <| g_on rfl rfl rfl <| mvi rfl <| g_on rfl rfl rfl <| cmp true rfl rfl rfl <| pkt (.bool _) rfl rfl <| agb rfl <| jt <| c_true rfl <| c_skip <| e_in <| e_then <| c_seq <| csr <| mvi rfl <| cmp false rfl rfl rfl <| jt <| c_false rfl <| c_seq <| c_reg ?_
  refine mvi rfl <| cmp false rfl rfl rfl <| mvb rfl <| g_on rfl rfl rfl <| mvi rfl <| g_on rfl rfl rfl <| cmp false rfl rfl rfl <| pkf (.bool _) rfl rfl <| jt <| c_false rfl <| c_skip <| e_then <| csr <| agi rfl <| jt <| c_seq <| csr <| mvi rfl <| jt <| c_block <| csr <| cmp true rfl rfl rfl <| agb rfl <| jt <| c_true rfl <| c_reg <| agi rfl <| jn <| e_in <| e_then <| csr <| mvi rfl <| cvI 64 rfl uy3 uy161 (by kernel_rfl) <| bopI (.int .u64 0) rfl rfl (by kernel_rfl) <| bopI (.int .u64 18446744073709551615) rfl rfl (by kernel_rfl) <| agi rfl ?_
  refine jsr <| agb rfl <| jsr <| agi rfl <| jt <| c_seq <| csr <| mvs rfl <| cvSB (s := w) rfl uy9 uy93 uy5 fun c99 hc99 => ⟨trivial, ?_⟩
  refine lenS rfl uy93 <| mvi rfl <| jt <| c_block <| c_loop (σ := Nat × UInt64) (fun (i, n) => i ≤ w.length ∧ ∀ m, m ≤ 18446744073709551615 → w = fmtN 10 m → n.toNat = m / 10 ^ (w.length - i)) (fun (i, n) => w.length - i) (fun (i, n) => [(101, .int .i64 (i : Int)), (13, .int .u64 (n.toNat : Int)), (12, .bool false)]) (fun (i, n) => [c99.seg w 5]) (fun (i, n) => []) [6, 7, 12, 13, 15, 16, 17, 101, 102, 103, 104, 105, 106, 107, 108, 109, 110, 111, 112, 113, 114, 115, 116, 117, 118, 119, 120, 121, 122, 123, 124, 125, 126, 127, 128, 129, 130, 131, 132, 133, 134, 135, 136, 137, 138, 139, 140, 141, 142, 143, 144, 145, 146, 147, 148, 149, 150, 151, 152, 153, 154, 155, 156, 157, 158, 159, 160, 161, 162, 163] (0, 0) (⟨by omega, fun m hm e => pu_start (by omega) e (by omega)⟩) ⟨rfl, rfl, rfl, trivial⟩ rfl rfl ?_
  rintro ⟨i, n⟩ g1 hI1
  try dsimp only at hI1 ⊢
  refine csr <| cmp _ rfl rfl rfl <| jt <| c_seq <| c_cond rfl (fun h2 => ?_) (fun h2 => ?_)
  ·replace h2 := of_decide_eq_true h2
   refine c_skip <| e_then <| c_seq <| c_block <| csr <| ixs ((c99).vs) w i (Ow.vs_ok hc99) rfl rfl rfl uy93 ty5.sz rfl (by first | omega | (simp; done) | (simp; omega) | (simp at *; omega)) <| ldsoG 0 (List.getD w i 0) hc99 rfl rfl rfl rfl (getD_some (by first | omega | (simp; done) | (simp; omega) | (simp at *; omega))) ty5 <| agi rfl <| jt <| c_seq ?_
   have HS := fun m (hm : m ≤ 18446744073709551615) (e : w = fmtN 10 m) => pu_step (b := 10) (by omega) e hm (show i < w.length by omega) (hI1.2 m hm e)
   refine c_reg <| agi rfl <| jt <| c_cut (σ := UInt8) (fun d => ∀ k, k < 10 → (List.getD w i 0) = dch k → d.toNat = k) (fun d => [(16, .int .u8 (d.toNat : Int)), (12, .bool false)]) (fun d => [c99.seg w 5]) (fun d => []) [6, 7, 12, 16, 105, 106, 107, 108, 109, 110, 111, 112, 113, 114, 115, 116, 117, 118, 119, 120, 121, 122, 123, 124, 125, 126, 127, 128, 129, 130, 131, 132, 133] ?_ ?_
   ·refine c_block <| csr <| mvi rfl <| equ8 (a := (List.getD w i 0)) (b := (95 : UInt8)) _ rfl rfl rfl <| mvb rfl <| jsplit 109 rfl (fun h3 => ?_) (fun h3 => ?_)
    ·replace h3 := of_decide_eq_true h3
     refine g_on rfl rfl rfl <| mvb rfl <| pkt (.bool _) rfl rfl <| agb rfl <| jt <| c_false rfl <| csr <| mvi rfl <| cmp _ rfl rfl rfl <| mvb rfl <| jsplit 115 rfl (fun h4 => ?_) (fun h4 => ?_)
     ·replace h4 := of_decide_eq_true h4
      refine g_on rfl rfl rfl <| mvi rfl <| g_on rfl rfl rfl <| cmp _ rfl rfl rfl <| pkt (.bool _) rfl rfl <| agb rfl <| jt <| c_cond rfl (fun h5 => ?_) (fun h5 => ?_)
      ·replace h5 := of_decide_eq_true h5
       refine c_reg <| mvi rfl <| subU8 (a := (List.getD w i 0)) (b := (48 : UInt8)) rfl rfl <| agi rfl <| jn <| e_in ?_
       exact e_lp ((List.getD w i 0) - (48 : UInt8)) (by repeat (first | exact out_self | refine out_hav (by kernel_rfl) ?_ | refine out_look (by kernel_rfl) ?_)) (fun k hk k2 => by have e1 := congrArg UInt8.toNat k2; have e2 : ((List.getD w i 0) ||| 32).toNat = (dch k ||| 32).toNat := (by rw [k2]); rcases dch_low k (by omega) with ⟨a1, a2, a3⟩ | ⟨a1, a2, a3, a4⟩ <;> first | (rw [k2]; exact a3) | (rw [k2]; exact a4) | (exfalso; omega)) trivial (⟨rfl, rfl, trivial⟩) rfl rfl rfl
      ·replace h5 := of_decide_eq_false h5
       refine csr <| mvi rfl <| cal (lower_ct (List.getD w i 0)) [] [0] [_] rfl rfl rfl (by kernel_rfl) impl_nil rfl ?_; rintro _ _ _ ⟨rfl, rfl, rfl⟩; refine ⟨trivial, ?_⟩
       refine cmp _ rfl rfl rfl <| mvb rfl <| jsplit 125 rfl (fun h6 => ?_) (fun h6 => ?_)
       ·replace h6 := of_decide_eq_true h6
        refine g_on rfl rfl rfl <| mvi rfl <| g_on rfl rfl rfl <| cal (lower_ct (List.getD w i 0)) [] [0] [_] rfl rfl rfl (by kernel_rfl) impl_nil rfl ?_; rintro _ _ _ ⟨rfl, rfl, rfl⟩; refine ⟨trivial, ?_⟩
        refine g_on rfl rfl rfl <| cmp _ rfl rfl rfl <| pkt (.bool _) rfl rfl <| agb rfl <| jt <| c_cond rfl (fun h7 => ?_) (fun h7 => ?_)
        ·replace h7 := of_decide_eq_true h7
         refine c_reg <| mvi rfl <| cal (lower_ct (List.getD w i 0)) [] [0] [_] rfl rfl rfl (by kernel_rfl) impl_nil rfl ?_; rintro _ _ _ ⟨rfl, rfl, rfl⟩; refine ⟨trivial, ?_⟩
         refine subU8 (a := ((List.getD w i 0) ||| 32)) (b := (97 : UInt8)) rfl rfl <| addU8 (a := (((List.getD w i 0) ||| 32) - (97 : UInt8))) (b := (10 : UInt8)) rfl rfl <| agi rfl <| jn <| e_in ?_
         exact e_lp ((((List.getD w i 0) ||| 32) - (97 : UInt8)) + (10 : UInt8)) (by repeat (first | exact out_self | refine out_hav (by kernel_rfl) ?_ | refine out_look (by kernel_rfl) ?_)) (fun k hk k2 => by have e1 := congrArg UInt8.toNat k2; have e2 : ((List.getD w i 0) ||| 32).toNat = (dch k ||| 32).toNat := (by rw [k2]); rcases dch_low k (by omega) with ⟨a1, a2, a3⟩ | ⟨a1, a2, a3, a4⟩ <;> first | (rw [k2]; exact a3) | (rw [k2]; exact a4) | (exfalso; omega)) trivial (⟨rfl, rfl, trivial⟩) rfl rfl rfl
        ·replace h7 := of_decide_eq_false h7
         refine csr <| mki (v := (.int _ _)) rfl uy212 rfl <| agi rfl <| asg (.iface _ _) rfl <| jt <| c_ret ?_
         exact j_d (own0 := []) (ro0 := []) (.inl rfl) rfl (hr2 Tryz.results132 (rvt (v := (.int _ _)) rfl) (rvt (v := (.iface _ _)) rfl)) [0] [_] rfl (by kernel_rfl) rfl (.inr ⟨fun m hm e => by obtain ⟨k, k1, k2, k3, k4⟩ := HS m hm e; have e1 := congrArg UInt8.toNat k2; have e2 : ((List.getD w i 0) ||| 32).toNat = (dch k ||| 32).toNat := (by rw [k2]); rcases dch_low k (by omega) with ⟨a1, a2, a3⟩ | ⟨a1, a2, a3, a4⟩ <;> omega, (0 : UInt64), 2, .inr rfl, rfl, rfl, rfl⟩)
       ·replace h6 := of_decide_eq_false h6
        refine g_off rfl rfl rfl rfl <| g_off rfl rfl rfl rfl <| g_off rfl rfl rfl rfl <| pkf (.bool _) rfl rfl <| agb rfl <| jt <| c_false rfl <| csr <| mki (v := (.int _ _)) rfl uy212 rfl <| agi rfl <| asg (.iface _ _) rfl <| jt <| c_ret ?_
        exact j_d (own0 := []) (ro0 := []) (.inl rfl) rfl (hr2 Tryz.results132 (rvt (v := (.int _ _)) rfl) (rvt (v := (.iface _ _)) rfl)) [0] [_] rfl (by kernel_rfl) rfl (.inr ⟨fun m hm e => by obtain ⟨k, k1, k2, k3, k4⟩ := HS m hm e; have e1 := congrArg UInt8.toNat k2; have e2 : ((List.getD w i 0) ||| 32).toNat = (dch k ||| 32).toNat := (by rw [k2]); rcases dch_low k (by omega) with ⟨a1, a2, a3⟩ | ⟨a1, a2, a3, a4⟩ <;> omega, (0 : UInt64), 2, .inr rfl, rfl, rfl, rfl⟩)
     ·replace h4 := of_decide_eq_false h4
      refine g_off rfl rfl rfl rfl <| g_off rfl rfl rfl rfl <| pkf (.bool _) rfl rfl <| agb rfl <| jt <| c_false rfl <| csr <| mvi rfl <| cal (lower_ct (List.getD w i 0)) [] [0] [_] rfl rfl rfl (by kernel_rfl) impl_nil rfl ?_; rintro _ _ _ ⟨rfl, rfl, rfl⟩; refine ⟨trivial, ?_⟩
      refine cmp _ rfl rfl rfl <| mvb rfl <| jsplit 125 rfl (fun h8 => ?_) (fun h8 => ?_)
      ·replace h8 := of_decide_eq_true h8
       refine g_on rfl rfl rfl <| mvi rfl <| g_on rfl rfl rfl <| cal (lower_ct (List.getD w i 0)) [] [0] [_] rfl rfl rfl (by kernel_rfl) impl_nil rfl ?_; rintro _ _ _ ⟨rfl, rfl, rfl⟩; refine ⟨trivial, ?_⟩
       refine g_on rfl rfl rfl <| cmp _ rfl rfl rfl <| pkt (.bool _) rfl rfl <| agb rfl <| jt <| c_cond rfl (fun h9 => ?_) (fun h9 => ?_)
       ·replace h9 := of_decide_eq_true h9
        refine c_reg <| mvi rfl <| cal (lower_ct (List.getD w i 0)) [] [0] [_] rfl rfl rfl (by kernel_rfl) impl_nil rfl ?_; rintro _ _ _ ⟨rfl, rfl, rfl⟩; refine ⟨trivial, ?_⟩
        refine subU8 (a := ((List.getD w i 0) ||| 32)) (b := (97 : UInt8)) rfl rfl <| addU8 (a := (((List.getD w i 0) ||| 32) - (97 : UInt8))) (b := (10 : UInt8)) rfl rfl <| agi rfl <| jn <| e_in ?_
        exact e_lp ((((List.getD w i 0) ||| 32) - (97 : UInt8)) + (10 : UInt8)) (by repeat (first | exact out_self | refine out_hav (by kernel_rfl) ?_ | refine out_look (by kernel_rfl) ?_)) (fun k hk k2 => by have e1 := congrArg UInt8.toNat k2; have e2 : ((List.getD w i 0) ||| 32).toNat = (dch k ||| 32).toNat := (by rw [k2]); rcases dch_low k (by omega) with ⟨a1, a2, a3⟩ | ⟨a1, a2, a3, a4⟩ <;> first | (rw [k2]; exact a3) | (rw [k2]; exact a4) | (exfalso; omega)) trivial (⟨rfl, rfl, trivial⟩) rfl rfl rfl
       ·replace h9 := of_decide_eq_false h9
        refine csr <| mki (v := (.int _ _)) rfl uy212 rfl <| agi rfl <| asg (.iface _ _) rfl <| jt <| c_ret ?_
        exact j_d (own0 := []) (ro0 := []) (.inl rfl) rfl (hr2 Tryz.results132 (rvt (v := (.int _ _)) rfl) (rvt (v := (.iface _ _)) rfl)) [0] [_] rfl (by kernel_rfl) rfl (.inr ⟨fun m hm e => by obtain ⟨k, k1, k2, k3, k4⟩ := HS m hm e; have e1 := congrArg UInt8.toNat k2; have e2 : ((List.getD w i 0) ||| 32).toNat = (dch k ||| 32).toNat := (by rw [k2]); rcases dch_low k (by omega) with ⟨a1, a2, a3⟩ | ⟨a1, a2, a3, a4⟩ <;> omega, (0 : UInt64), 2, .inr rfl, rfl, rfl, rfl⟩)
      ·replace h8 := of_decide_eq_false h8
       refine g_off rfl rfl rfl rfl <| g_off rfl rfl rfl rfl <| g_off rfl rfl rfl rfl <| pkf (.bool _) rfl rfl <| agb rfl <| jt <| c_false rfl <| csr <| mki (v := (.int _ _)) rfl uy212 rfl <| agi rfl <| asg (.iface _ _) rfl <| jt <| c_ret ?_
       exact j_d (own0 := []) (ro0 := []) (.inl rfl) rfl (hr2 Tryz.results132 (rvt (v := (.int _ _)) rfl) (rvt (v := (.iface _ _)) rfl)) [0] [_] rfl (by kernel_rfl) rfl (.inr ⟨fun m hm e => by obtain ⟨k, k1, k2, k3, k4⟩ := HS m hm e; have e1 := congrArg UInt8.toNat k2; have e2 : ((List.getD w i 0) ||| 32).toNat = (dch k ||| 32).toNat := (by rw [k2]); rcases dch_low k (by omega) with ⟨a1, a2, a3⟩ | ⟨a1, a2, a3, a4⟩ <;> omega, (0 : UInt64), 2, .inr rfl, rfl, rfl, rfl⟩)
    ·replace h3 := of_decide_eq_false h3
     refine g_off rfl rfl rfl rfl <| pkf (.bool _) rfl rfl <| agb rfl <| jt <| c_false rfl <| csr <| mvi rfl <| cmp _ rfl rfl rfl <| mvb rfl <| jsplit 115 rfl (fun h10 => ?_) (fun h10 => ?_)
     ·replace h10 := of_decide_eq_true h10
      refine g_on rfl rfl rfl <| mvi rfl <| g_on rfl rfl rfl <| cmp _ rfl rfl rfl <| pkt (.bool _) rfl rfl <| agb rfl <| jt <| c_cond rfl (fun h11 => ?_) (fun h11 => ?_)
      ·replace h11 := of_decide_eq_true h11
       refine c_reg <| mvi rfl <| subU8 (a := (List.getD w i 0)) (b := (48 : UInt8)) rfl rfl <| agi rfl <| jn <| e_in ?_
       exact e_lp ((List.getD w i 0) - (48 : UInt8)) (by repeat (first | exact out_self | refine out_hav (by kernel_rfl) ?_ | refine out_look (by kernel_rfl) ?_)) (fun k hk k2 => by have e1 := congrArg UInt8.toNat k2; have e2 : ((List.getD w i 0) ||| 32).toNat = (dch k ||| 32).toNat := (by rw [k2]); rcases dch_low k (by omega) with ⟨a1, a2, a3⟩ | ⟨a1, a2, a3, a4⟩ <;> first | (rw [k2]; exact a3) | (rw [k2]; exact a4) | (exfalso; omega)) trivial (⟨rfl, rfl, trivial⟩) rfl rfl rfl
      ·replace h11 := of_decide_eq_false h11
       refine csr <| mvi rfl <| cal (lower_ct (List.getD w i 0)) [] [0] [_] rfl rfl rfl (by kernel_rfl) impl_nil rfl ?_; rintro _ _ _ ⟨rfl, rfl, rfl⟩; refine ⟨trivial, ?_⟩
       refine cmp _ rfl rfl rfl <| mvb rfl <| jsplit 125 rfl (fun h12 => ?_) (fun h12 => ?_)
       ·replace h12 := of_decide_eq_true h12
        refine g_on rfl rfl rfl <| mvi rfl <| g_on rfl rfl rfl <| cal (lower_ct (List.getD w i 0)) [] [0] [_] rfl rfl rfl (by kernel_rfl) impl_nil rfl ?_; rintro _ _ _ ⟨rfl, rfl, rfl⟩; refine ⟨trivial, ?_⟩
        refine g_on rfl rfl rfl <| cmp _ rfl rfl rfl <| pkt (.bool _) rfl rfl <| agb rfl <| jt <| c_cond rfl (fun h13 => ?_) (fun h13 => ?_)
        ·replace h13 := of_decide_eq_true h13
         refine c_reg <| mvi rfl <| cal (lower_ct (List.getD w i 0)) [] [0] [_] rfl rfl rfl (by kernel_rfl) impl_nil rfl ?_; rintro _ _ _ ⟨rfl, rfl, rfl⟩; refine ⟨trivial, ?_⟩
         refine subU8 (a := ((List.getD w i 0) ||| 32)) (b := (97 : UInt8)) rfl rfl <| addU8 (a := (((List.getD w i 0) ||| 32) - (97 : UInt8))) (b := (10 : UInt8)) rfl rfl <| agi rfl <| jn <| e_in ?_
         exact e_lp ((((List.getD w i 0) ||| 32) - (97 : UInt8)) + (10 : UInt8)) (by repeat (first | exact out_self | refine out_hav (by kernel_rfl) ?_ | refine out_look (by kernel_rfl) ?_)) (fun k hk k2 => by have e1 := congrArg UInt8.toNat k2; have e2 : ((List.getD w i 0) ||| 32).toNat = (dch k ||| 32).toNat := (by rw [k2]); rcases dch_low k (by omega) with ⟨a1, a2, a3⟩ | ⟨a1, a2, a3, a4⟩ <;> first | (rw [k2]; exact a3) | (rw [k2]; exact a4) | (exfalso; omega)) trivial (⟨rfl, rfl, trivial⟩) rfl rfl rfl
        ·replace h13 := of_decide_eq_false h13
         refine csr <| mki (v := (.int _ _)) rfl uy212 rfl <| agi rfl <| asg (.iface _ _) rfl <| jt <| c_ret ?_
         exact j_d (own0 := []) (ro0 := []) (.inl rfl) rfl (hr2 Tryz.results132 (rvt (v := (.int _ _)) rfl) (rvt (v := (.iface _ _)) rfl)) [0] [_] rfl (by kernel_rfl) rfl (.inr ⟨fun m hm e => by obtain ⟨k, k1, k2, k3, k4⟩ := HS m hm e; have e1 := congrArg UInt8.toNat k2; have e2 : ((List.getD w i 0) ||| 32).toNat = (dch k ||| 32).toNat := (by rw [k2]); rcases dch_low k (by omega) with ⟨a1, a2, a3⟩ | ⟨a1, a2, a3, a4⟩ <;> omega, (0 : UInt64), 2, .inr rfl, rfl, rfl, rfl⟩)
       ·replace h12 := of_decide_eq_false h12
        refine g_off rfl rfl rfl rfl <| g_off rfl rfl rfl rfl <| g_off rfl rfl rfl rfl <| pkf (.bool _) rfl rfl <| agb rfl <| jt <| c_false rfl <| csr <| mki (v := (.int _ _)) rfl uy212 rfl <| agi rfl <| asg (.iface _ _) rfl <| jt <| c_ret ?_
        exact j_d (own0 := []) (ro0 := []) (.inl rfl) rfl (hr2 Tryz.results132 (rvt (v := (.int _ _)) rfl) (rvt (v := (.iface _ _)) rfl)) [0] [_] rfl (by kernel_rfl) rfl (.inr ⟨fun m hm e => by obtain ⟨k, k1, k2, k3, k4⟩ := HS m hm e; have e1 := congrArg UInt8.toNat k2; have e2 : ((List.getD w i 0) ||| 32).toNat = (dch k ||| 32).toNat := (by rw [k2]); rcases dch_low k (by omega) with ⟨a1, a2, a3⟩ | ⟨a1, a2, a3, a4⟩ <;> omega, (0 : UInt64), 2, .inr rfl, rfl, rfl, rfl⟩)
     ·replace h10 := of_decide_eq_false h10
      refine g_off rfl rfl rfl rfl <| g_off rfl rfl rfl rfl <| pkf (.bool _) rfl rfl <| agb rfl <| jt <| c_false rfl <| csr <| mvi rfl <| cal (lower_ct (List.getD w i 0)) [] [0] [_] rfl rfl rfl (by kernel_rfl) impl_nil rfl ?_; rintro _ _ _ ⟨rfl, rfl, rfl⟩; refine ⟨trivial, ?_⟩
      refine cmp _ rfl rfl rfl <| mvb rfl <| jsplit 125 rfl (fun h14 => ?_) (fun h14 => ?_)
      ·replace h14 := of_decide_eq_true h14
       refine g_on rfl rfl rfl <| mvi rfl <| g_on rfl rfl rfl <| cal (lower_ct (List.getD w i 0)) [] [0] [_] rfl rfl rfl (by kernel_rfl) impl_nil rfl ?_; rintro _ _ _ ⟨rfl, rfl, rfl⟩; refine ⟨trivial, ?_⟩
       refine g_on rfl rfl rfl <| cmp _ rfl rfl rfl <| pkt (.bool _) rfl rfl <| agb rfl <| jt <| c_cond rfl (fun h15 => ?_) (fun h15 => ?_)
       ·replace h15 := of_decide_eq_true h15
        refine c_reg <| mvi rfl <| cal (lower_ct (List.getD w i 0)) [] [0] [_] rfl rfl rfl (by kernel_rfl) impl_nil rfl ?_; rintro _ _ _ ⟨rfl, rfl, rfl⟩; refine ⟨trivial, ?_⟩
        refine subU8 (a := ((List.getD w i 0) ||| 32)) (b := (97 : UInt8)) rfl rfl <| addU8 (a := (((List.getD w i 0) ||| 32) - (97 : UInt8))) (b := (10 : UInt8)) rfl rfl <| agi rfl <| jn <| e_in ?_
        exact e_lp ((((List.getD w i 0) ||| 32) - (97 : UInt8)) + (10 : UInt8)) (by repeat (first | exact out_self | refine out_hav (by kernel_rfl) ?_ | refine out_look (by kernel_rfl) ?_)) (fun k hk k2 => by have e1 := congrArg UInt8.toNat k2; have e2 : ((List.getD w i 0) ||| 32).toNat = (dch k ||| 32).toNat := (by rw [k2]); rcases dch_low k (by omega) with ⟨a1, a2, a3⟩ | ⟨a1, a2, a3, a4⟩ <;> first | (rw [k2]; exact a3) | (rw [k2]; exact a4) | (exfalso; omega)) trivial (⟨rfl, rfl, trivial⟩) rfl rfl rfl
       ·replace h15 := of_decide_eq_false h15
        refine csr <| mki (v := (.int _ _)) rfl uy212 rfl <| agi rfl <| asg (.iface _ _) rfl <| jt <| c_ret ?_
        exact j_d (own0 := []) (ro0 := []) (.inl rfl) rfl (hr2 Tryz.results132 (rvt (v := (.int _ _)) rfl) (rvt (v := (.iface _ _)) rfl)) [0] [_] rfl (by kernel_rfl) rfl (.inr ⟨fun m hm e => by obtain ⟨k, k1, k2, k3, k4⟩ := HS m hm e; have e1 := congrArg UInt8.toNat k2; have e2 : ((List.getD w i 0) ||| 32).toNat = (dch k ||| 32).toNat := (by rw [k2]); rcases dch_low k (by omega) with ⟨a1, a2, a3⟩ | ⟨a1, a2, a3, a4⟩ <;> omega, (0 : UInt64), 2, .inr rfl, rfl, rfl, rfl⟩)
      ·replace h14 := of_decide_eq_false h14
       refine g_off rfl rfl rfl rfl <| g_off rfl rfl rfl rfl <| g_off rfl rfl rfl rfl <| pkf (.bool _) rfl rfl <| agb rfl <| jt <| c_false rfl <| csr <| mki (v := (.int _ _)) rfl uy212 rfl <| agi rfl <| asg (.iface _ _) rfl <| jt <| c_ret ?_
       exact j_d (own0 := []) (ro0 := []) (.inl rfl) rfl (hr2 Tryz.results132 (rvt (v := (.int _ _)) rfl) (rvt (v := (.iface _ _)) rfl)) [0] [_] rfl (by kernel_rfl) rfl (.inr ⟨fun m hm e => by obtain ⟨k, k1, k2, k3, k4⟩ := HS m hm e; have e1 := congrArg UInt8.toNat k2; have e2 : ((List.getD w i 0) ||| 32).toNat = (dch k ||| 32).toNat := (by rw [k2]); rcases dch_low k (by omega) with ⟨a1, a2, a3⟩ | ⟨a1, a2, a3, a4⟩ <;> omega, (0 : UInt64), 2, .inr rfl, rfl, rfl, rfl⟩)
   ·rintro d g hC1
    try dsimp only at hC1 ⊢
    refine c_seq <| csr <| mvi rfl <| mvi rfl <| cvI 10 rfl uy3 uy5 (by kernel_rfl) <| cmp _ rfl rfl rfl <| jt <| c_cond rfl (fun h16 => ?_) (fun h16 => ?_)
    ·replace h16 := of_decide_eq_true h16
     refine csr <| mki (v := (.int _ _)) rfl uy212 rfl <| agi rfl <| asg (.iface _ _) rfl <| jt <| c_ret ?_
     exact j_d (own0 := []) (ro0 := []) (.inl rfl) rfl (hr2 Tryz.results132 (rvt (v := (.int _ _)) rfl) (rvt (v := (.iface _ _)) rfl)) [0] [_] rfl (by kernel_rfl) rfl (.inr ⟨fun m hm e => by obtain ⟨k, k1, k2, k3, k4⟩ := HS m hm e; have h9 := hC1 k k1 k2; omega, (0 : UInt64), 2, .inr rfl, rfl, rfl, rfl⟩)
    ·replace h16 := of_decide_eq_false h16
     refine c_skip <| e_then <| c_seq <| csr <| mvi rfl <| mvi rfl <| cmp _ rfl rfl rfl <| jt <| c_cond rfl (fun h17 => ?_) (fun h17 => ?_)
     ·replace h17 := of_decide_eq_true h17
      refine csr <| mvi rfl <| mki (v := (.int _ _)) rfl uy212 rfl <| agi rfl <| asg (.iface _ _) rfl <| jt <| c_ret ?_
      exact j_d (own0 := []) (ro0 := []) (.inl rfl) rfl (hr2 Tryz.results132 (rvt (v := (.int _ _)) rfl) (rvt (v := (.iface _ _)) rfl)) [0] [_] rfl (by kernel_rfl) rfl (.inr ⟨fun m hm e => by obtain ⟨k, k1, k2, k3, k4⟩ := HS m hm e; have h9 := hC1 k k1 k2; omega, (18446744073709551615 : UInt64), 1, .inl ⟨rfl, rfl⟩, rfl, rfl, rfl⟩)
     ·replace h17 := of_decide_eq_false h17
      refine c_skip <| e_then <| csr <| mvi rfl <| mvi rfl <| cvI 10 rfl uy3 uy72 (by kernel_rfl) <| mulU64 (a := n) (b := (10 : UInt64)) rfl rfl <| agi rfl <| jsr <| mvi rfl <| mvi rfl <| cvNU64 (n := d.toNat) rfl uy5 uy72 <| addU64 (a := (n * (10 : UInt64))) (b := (UInt64.ofNat d.toNat)) rfl rfl <| agi rfl <| jt <| c_seq <| c_seq ?_
      have HD := d.toNat_lt
      have HM : (n * 10).toNat = n.toNat * 10 := by rw [UInt64.toNat_mul]; show n.toNat * 10 % 2 ^ 64 = _; omega
      have HN : (n * 10 + UInt64.ofNat d.toNat).toNat = (n.toNat * 10 + d.toNat) % 18446744073709551616 := by rw [UInt64.toNat_add, HM, UInt64.toNat_ofNat', Nat.mod_eq_of_lt (a := d.toNat) (by omega)]
      refine c_reg <| mvi rfl <| mvi rfl <| cmp _ rfl rfl rfl <| mvb rfl <| jsplit 155 rfl (fun h18 => ?_) (fun h18 => ?_)
      ·replace h18 := of_decide_eq_true h18
       refine g_off rfl rfl rfl rfl <| g_off rfl rfl rfl rfl <| g_off rfl rfl rfl rfl <| pkt (.bool _) rfl rfl <| jt <| c_true rfl <| csr <| mvi rfl <| mki (v := (.int _ _)) rfl uy212 rfl <| agi rfl <| asg (.iface _ _) rfl <| jt <| c_ret ?_
       exact j_d (own0 := []) (ro0 := []) (.inl rfl) rfl (hr2 Tryz.results132 (rvt (v := (.int _ _)) rfl) (rvt (v := (.iface _ _)) rfl)) [0] [_] rfl (by kernel_rfl) rfl (.inr ⟨fun m hm e => by obtain ⟨k, k1, k2, k3, k4⟩ := HS m hm e; have h9 := hC1 k k1 k2; omega, (18446744073709551615 : UInt64), 1, .inl ⟨rfl, rfl⟩, rfl, rfl, rfl⟩)
      ·replace h18 := of_decide_eq_false h18
       refine g_on rfl rfl rfl <| mvi rfl <| g_on rfl rfl rfl <| mvi rfl <| g_on rfl rfl rfl <| cmp _ rfl rfl rfl <| pkf (.bool _) rfl rfl <| jt <| c_cond rfl (fun h19 => ?_) (fun h19 => ?_)
       ·replace h19 := of_decide_eq_true h19
        refine csr <| mvi rfl <| mki (v := (.int _ _)) rfl uy212 rfl <| agi rfl <| asg (.iface _ _) rfl <| jt <| c_ret ?_
        exact j_d (own0 := []) (ro0 := []) (.inl rfl) rfl (hr2 Tryz.results132 (rvt (v := (.int _ _)) rfl) (rvt (v := (.iface _ _)) rfl)) [0] [_] rfl (by kernel_rfl) rfl (.inr ⟨fun m hm e => by obtain ⟨k, k1, k2, k3, k4⟩ := HS m hm e; have h9 := hC1 k k1 k2; omega, (18446744073709551615 : UInt64), 1, .inl ⟨rfl, rfl⟩, rfl, rfl, rfl⟩)
       ·replace h19 := of_decide_eq_false h19
        refine c_skip <| e_then <| c_reg <| mvi rfl <| agi rfl <| jn <| e_in <| e_then <| c_reg <| addi rfl rfl rfl (by omega) <| mvi rfl <| jn ?_
        exact e_lp (i + 1, ((n * (10 : UInt64)) + (UInt64.ofNat d.toNat))) (by repeat (first | exact out_self | refine out_hav (by kernel_rfl) ?_ | refine out_look (by kernel_rfl) ?_)) (⟨by omega, fun m hm e => by obtain ⟨k, k1, k2, k3, k4⟩ := HS m hm e; have h9 := hC1 k k1 k2; rw [← k3, HN]; omega⟩) (by show w.length - (i + 1) < w.length - i; omega) (⟨rfl, rfl, rfl, trivial⟩) rfl rfl rfl
  ·replace h2 := of_decide_eq_false h2
   refine c_exit rfl <| e_then <| c_seq <| csr <| mvb rfl <| mvb rfl <| g_off rfl rfl rfl rfl <| g_off rfl rfl rfl rfl <| g_off rfl rfl rfl rfl <| pkf (.bool _) rfl rfl <| jt <| c_false rfl <| c_skip <| e_then <| csr <| mvi rfl <| agi rfl <| asg .nilIface rfl <| jt <| c_ret ?_
   exact j_d (own0 := []) (ro0 := []) (.inl rfl) rfl (hr2 Tryz.results132 (rvt (v := (.int _ _)) rfl) (rvt (v := .nilIface) rfl)) [0] [_] rfl (by kernel_rfl) rfl (.inl ⟨_, fun m hm e => by have h9 := hI1.2 m hm e; rw [show w.length - i = 0 by omega, Nat.pow_zero, Nat.div_one] at h9; exact h9, rfl, rfl, rfl⟩)
theorem iParseUint16_ct (w : Str) (hw : w.length ≤ 9223372036854775806) : Ct Tryz.prog 132 [strV w, .int .i64 16, .int .i64 32] [] [] (fun v o r => (∃ n : UInt64, (∀ m, m ≤ 4294967295 → w = fmtN 16 m → n.toNat = m) ∧ v = .tuple #[.int .u64 (n.toNat : Int), .nilIface] ∧ o = [] ∧ r = []) ∨ ((∀ m, m ≤ 4294967295 → w ≠ fmtN 16 m) ∧ ∃ (n : UInt64) (c : Int), (c = 1 ∧ n.toNat = 4294967295 ∨ c = 2) ∧ v = .tuple #[.int .u64 (n.toNat : Int), .iface 212 (.int .i64 c)] ∧ o = [] ∧ r = [])) := by
 refine ct_enter Tryz.func132 rfl Tryz.ntmps132 (by kernel_rfl) rfl fun w0 => ?_
 refine csr <| agi rfl <| asg .nilIface rfl <| jt <| c_seq <| csr <| mvs rfl <| scmp (a := w) (b := ([] : Str)) _ rfl rfl uy9 rfl <| jt <| c_cond rfl (fun h1 => ?_) (fun h1 => ?_)
 ·replace h1 := of_decide_eq_true h1
  refine csr <| mki (v := (.int _ _)) rfl uy212 rfl <| agi rfl <| asg (.iface _ _) rfl <| jt <| c_ret ?_
  exact j_z (own0 := []) (ro0 := []) (.inl rfl) rfl (hr2 Tryz.results132 (rvt (v := (.int _ _)) rfl) (rvt (v := (.iface _ _)) rfl)) rfl (.inr ⟨fun m hm e => by exact fmt_ne (e.symm.trans h1), (0 : UInt64), 2, .inr rfl, rfl, rfl, rfl⟩)
 ·replace h1 := of_decide_eq_false h1
  refine c_skip <| e_then <| csr <| mvi rfl <| cmp false rfl rfl rfl <| agb rfl <| jsr <| mvs rfl <| ags rfl <| jt <| c_seq <| c_block <| csr <| mvi rfl <| cmp true rfl rfl rfl <| mvb rfl <| g_on rfl rfl rfl <| mvi rfl <| g_on rfl rfl rfl <| cmp true rfl rfl rfl <| pkt (.bool _) rfl rfl <| agb rfl <| jt <| c_true rfl <| c_skip <| e_in <| e_then <| c_seq <| csr <| mvi rfl <| cmp false rfl rfl rfl <| jt <| c_false rfl <| c_seq <| c_reg ?_
  refine mvi rfl <| cmp false rfl rfl rfl <| mvb rfl <| g_on rfl rfl rfl <| mvi rfl <| g_on rfl rfl rfl <| cmp false rfl rfl rfl <| pkf (.bool _) rfl rfl <| jt <| c_false rfl <| c_skip <| e_then <| csr <| agi rfl <| jt <| c_seq <| csr <| mvi rfl <| jt <| c_block <| csr <| cmp false rfl rfl rfl <| agb rfl <| jt <| c_false rfl <| csr <| cmp true rfl rfl rfl <| agb rfl <| jt <| c_true rfl <| c_reg <| agi rfl <| jn <| e_in <| e_then <| c_seq ?_
  refine c_reg <| mvi rfl <| cvI 32 rfl uy3 uy161 (by kernel_rfl) <| bopI (.int .u64 4294967296) rfl rfl (by kernel_rfl) <| bopI (.int .u64 4294967295) rfl rfl (by kernel_rfl) <| agi rfl <| jsr <| agb rfl <| jsr <| agi rfl <| jt <| c_seq <| csr <| mvs rfl <| cvSB (s := w) rfl uy9 uy93 uy5 fun c99 hc99 => ⟨trivial, ?_⟩
  refine lenS rfl uy93 <| mvi rfl <| jt <| c_block <| c_loop (σ := Nat × UInt64) (fun (i, n) => i ≤ w.length ∧ ∀ m, m ≤ 4294967295 → w = fmtN 16 m → n.toNat = m / 16 ^ (w.length - i)) (fun (i, n) => w.length - i) (fun (i, n) => [(101, .int .i64 (i : Int)), (13, .int .u64 (n.toNat : Int)), (12, .bool false)]) (fun (i, n) => [c99.seg w 5]) (fun (i, n) => []) [6, 7, 12, 13, 15, 16, 17, 101, 102, 103, 104, 105, 106, 107, 108, 109, 110, 111, 112, 113, 114, 115, 116, 117, 118, 119, 120, 121, 122, 123, 124, 125, 126, 127, 128, 129, 130, 131, 132, 133, 134, 135, 136, 137, 138, 139, 140, 141, 142, 143, 144, 145, 146, 147, 148, 149, 150, 151, 152, 153, 154, 155, 156, 157, 158, 159, 160, 161, 162, 163] (0, 0) (⟨by omega, fun m hm e => pu_start (by omega) e (by omega)⟩) ⟨rfl, rfl, rfl, trivial⟩ rfl rfl ?_
  rintro ⟨i, n⟩ g1 hI1
  try dsimp only at hI1 ⊢
  refine csr <| cmp _ rfl rfl rfl <| jt <| c_seq <| c_cond rfl (fun h2 => ?_) (fun h2 => ?_)
  ·replace h2 := of_decide_eq_true h2
   refine c_skip <| e_then <| c_seq <| c_block <| csr <| ixs ((c99).vs) w i (Ow.vs_ok hc99) rfl rfl rfl uy93 ty5.sz rfl (by first | omega | (simp; done) | (simp; omega) | (simp at *; omega)) <| ldsoG 0 (List.getD w i 0) hc99 rfl rfl rfl rfl (getD_some (by first | omega | (simp; done) | (simp; omega) | (simp at *; omega))) ty5 <| agi rfl <| jt <| c_seq ?_
   have HS := fun m (hm : m ≤ 4294967295) (e : w = fmtN 16 m) => pu_step (b := 16) (by omega) e hm (show i < w.length by omega) (hI1.2 m hm e)
   refine c_reg <| agi rfl <| jt <| c_cut (σ := UInt8) (fun d => ∀ k, k < 16 → (List.getD w i 0) = dch k → d.toNat = k) (fun d => [(16, .int .u8 (d.toNat : Int)), (12, .bool false)]) (fun d => [c99.seg w 5]) (fun d => []) [6, 7, 12, 16, 105, 106, 107, 108, 109, 110, 111, 112, 113, 114, 115, 116, 117, 118, 119, 120, 121, 122, 123, 124, 125, 126, 127, 128, 129, 130, 131, 132, 133] ?_ ?_
   ·refine c_block <| csr <| mvi rfl <| equ8 (a := (List.getD w i 0)) (b := (95 : UInt8)) _ rfl rfl rfl <| mvb rfl <| jsplit 109 rfl (fun h3 => ?_) (fun h3 => ?_)
    ·replace h3 := of_decide_eq_true h3
     refine g_on rfl rfl rfl <| mvb rfl <| pkt (.bool _) rfl rfl <| agb rfl <| jt <| c_false rfl <| csr <| mvi rfl <| cmp _ rfl rfl rfl <| mvb rfl <| jsplit 115 rfl (fun h4 => ?_) (fun h4 => ?_)
     ·replace h4 := of_decide_eq_true h4
      refine g_on rfl rfl rfl <| mvi rfl <| g_on rfl rfl rfl <| cmp _ rfl rfl rfl <| pkt (.bool _) rfl rfl <| agb rfl <| jt <| c_cond rfl (fun h5 => ?_) (fun h5 => ?_)
      ·replace h5 := of_decide_eq_true h5
       refine c_reg <| mvi rfl <| subU8 (a := (List.getD w i 0)) (b := (48 : UInt8)) rfl rfl <| agi rfl <| jn <| e_in ?_
       exact e_lp ((List.getD w i 0) - (48 : UInt8)) (by repeat (first | exact out_self | refine out_hav (by kernel_rfl) ?_ | refine out_look (by kernel_rfl) ?_)) (fun k hk k2 => by have e1 := congrArg UInt8.toNat k2; have e2 : ((List.getD w i 0) ||| 32).toNat = (dch k ||| 32).toNat := (by rw [k2]); rcases dch_low k (by omega) with ⟨a1, a2, a3⟩ | ⟨a1, a2, a3, a4⟩ <;> first | (rw [k2]; exact a3) | (rw [k2]; exact a4) | (exfalso; omega)) trivial (⟨rfl, rfl, trivial⟩) rfl rfl rfl
      ·replace h5 := of_decide_eq_false h5
       refine csr <| mvi rfl <| cal (lower_ct (List.getD w i 0)) [] [0] [_] rfl rfl rfl (by kernel_rfl) impl_nil rfl ?_; rintro _ _ _ ⟨rfl, rfl, rfl⟩; refine ⟨trivial, ?_⟩
       refine cmp _ rfl rfl rfl <| mvb rfl <| jsplit 125 rfl (fun h6 => ?_) (fun h6 => ?_)
       ·replace h6 := of_decide_eq_true h6
        refine g_on rfl rfl rfl <| mvi rfl <| g_on rfl rfl rfl <| cal (lower_ct (List.getD w i 0)) [] [0] [_] rfl rfl rfl (by kernel_rfl) impl_nil rfl ?_; rintro _ _ _ ⟨rfl, rfl, rfl⟩; refine ⟨trivial, ?_⟩
        refine g_on rfl rfl rfl <| cmp _ rfl rfl rfl <| pkt (.bool _) rfl rfl <| agb rfl <| jt <| c_cond rfl (fun h7 => ?_) (fun h7 => ?_)
        ·replace h7 := of_decide_eq_true h7
         refine c_reg <| mvi rfl <| cal (lower_ct (List.getD w i 0)) [] [0] [_] rfl rfl rfl (by kernel_rfl) impl_nil rfl ?_; rintro _ _ _ ⟨rfl, rfl, rfl⟩; refine ⟨trivial, ?_⟩
         refine subU8 (a := ((List.getD w i 0) ||| 32)) (b := (97 : UInt8)) rfl rfl <| addU8 (a := (((List.getD w i 0) ||| 32) - (97 : UInt8))) (b := (10 : UInt8)) rfl rfl <| agi rfl <| jn <| e_in ?_
         exact e_lp ((((List.getD w i 0) ||| 32) - (97 : UInt8)) + (10 : UInt8)) (by repeat (first | exact out_self | refine out_hav (by kernel_rfl) ?_ | refine out_look (by kernel_rfl) ?_)) (fun k hk k2 => by have e1 := congrArg UInt8.toNat k2; have e2 : ((List.getD w i 0) ||| 32).toNat = (dch k ||| 32).toNat := (by rw [k2]); rcases dch_low k (by omega) with ⟨a1, a2, a3⟩ | ⟨a1, a2, a3, a4⟩ <;> first | (rw [k2]; exact a3) | (rw [k2]; exact a4) | (exfalso; omega)) trivial (⟨rfl, rfl, trivial⟩) rfl rfl rfl
        ·replace h7 := of_decide_eq_false h7
         refine csr <| mki (v := (.int _ _)) rfl uy212 rfl <| agi rfl <| asg (.iface _ _) rfl <| jt <| c_ret ?_
         exact j_d (own0 := []) (ro0 := []) (.inl rfl) rfl (hr2 Tryz.results132 (rvt (v := (.int _ _)) rfl) (rvt (v := (.iface _ _)) rfl)) [0] [_] rfl (by kernel_rfl) rfl (.inr ⟨fun m hm e => by obtain ⟨k, k1, k2, k3, k4⟩ := HS m hm e; have e1 := congrArg UInt8.toNat k2; have e2 : ((List.getD w i 0) ||| 32).toNat = (dch k ||| 32).toNat := (by rw [k2]); rcases dch_low k (by omega) with ⟨a1, a2, a3⟩ | ⟨a1, a2, a3, a4⟩ <;> omega, (0 : UInt64), 2, .inr rfl, rfl, rfl, rfl⟩)
       ·replace h6 := of_decide_eq_false h6
        refine g_off rfl rfl rfl rfl <| g_off rfl rfl rfl rfl <| g_off rfl rfl rfl rfl <| pkf (.bool _) rfl rfl <| agb rfl <| jt <| c_false rfl <| csr <| mki (v := (.int _ _)) rfl uy212 rfl <| agi rfl <| asg (.iface _ _) rfl <| jt <| c_ret ?_
        exact j_d (own0 := []) (ro0 := []) (.inl rfl) rfl (hr2 Tryz.results132 (rvt (v := (.int _ _)) rfl) (rvt (v := (.iface _ _)) rfl)) [0] [_] rfl (by kernel_rfl) rfl (.inr ⟨fun m hm e => by obtain ⟨k, k1, k2, k3, k4⟩ := HS m hm e; have e1 := congrArg UInt8.toNat k2; have e2 : ((List.getD w i 0) ||| 32).toNat = (dch k ||| 32).toNat := (by rw [k2]); rcases dch_low k (by omega) with ⟨a1, a2, a3⟩ | ⟨a1, a2, a3, a4⟩ <;> omega, (0 : UInt64), 2, .inr rfl, rfl, rfl, rfl⟩)
     ·replace h4 := of_decide_eq_false h4
      refine g_off rfl rfl rfl rfl <| g_off rfl rfl rfl rfl <| pkf (.bool _) rfl rfl <| agb rfl <| jt <| c_false rfl <| csr <| mvi rfl <| cal (lower_ct (List.getD w i 0)) [] [0] [_] rfl rfl rfl (by kernel_rfl) impl_nil rfl ?_; rintro _ _ _ ⟨rfl, rfl, rfl⟩; refine ⟨trivial, ?_⟩
      refine cmp _ rfl rfl rfl <| mvb rfl <| jsplit 125 rfl (fun h8 => ?_) (fun h8 => ?_)
      ·replace h8 := of_decide_eq_true h8
       refine g_on rfl rfl rfl <| mvi rfl <| g_on rfl rfl rfl <| cal (lower_ct (List.getD w i 0)) [] [0] [_] rfl rfl rfl (by kernel_rfl) impl_nil rfl ?_; rintro _ _ _ ⟨rfl, rfl, rfl⟩; refine ⟨trivial, ?_⟩
       refine g_on rfl rfl rfl <| cmp _ rfl rfl rfl <| pkt (.bool _) rfl rfl <| agb rfl <| jt <| c_cond rfl (fun h9 => ?_) (fun h9 => ?_)
       ·replace h9 := of_decide_eq_true h9
        refine c_reg <| mvi rfl <| cal (lower_ct (List.getD w i 0)) [] [0] [_] rfl rfl rfl (by kernel_rfl) impl_nil rfl ?_; rintro _ _ _ ⟨rfl, rfl, rfl⟩; refine ⟨trivial, ?_⟩
        refine subU8 (a := ((List.getD w i 0) ||| 32)) (b := (97 : UInt8)) rfl rfl <| addU8 (a := (((List.getD w i 0) ||| 32) - (97 : UInt8))) (b := (10 : UInt8)) rfl rfl <| agi rfl <| jn <| e_in ?_
        exact e_lp ((((List.getD w i 0) ||| 32) - (97 : UInt8)) + (10 : UInt8)) (by repeat (first | exact out_self | refine out_hav (by kernel_rfl) ?_ | refine out_look (by kernel_rfl) ?_)) (fun k hk k2 => by have e1 := congrArg UInt8.toNat k2; have e2 : ((List.getD w i 0) ||| 32).toNat = (dch k ||| 32).toNat := (by rw [k2]); rcases dch_low k (by omega) with ⟨a1, a2, a3⟩ | ⟨a1, a2, a3, a4⟩ <;> first | (rw [k2]; exact a3) | (rw [k2]; exact a4) | (exfalso; omega)) trivial (⟨rfl, rfl, trivial⟩) rfl rfl rfl
       ·replace h9 := of_decide_eq_false h9
        refine csr <| mki (v := (.int _ _)) rfl uy212 rfl <| agi rfl <| asg (.iface _ _) rfl <| jt <| c_ret ?_
        exact j_d (own0 := []) (ro0 := []) (.inl rfl) rfl (hr2 Tryz.results132 (rvt (v := (.int _ _)) rfl) (rvt (v := (.iface _ _)) rfl)) [0] [_] rfl (by kernel_rfl) rfl (.inr ⟨fun m hm e => by obtain ⟨k, k1, k2, k3, k4⟩ := HS m hm e; have e1 := congrArg UInt8.toNat k2; have e2 : ((List.getD w i 0) ||| 32).toNat = (dch k ||| 32).toNat := (by rw [k2]); rcases dch_low k (by omega) with ⟨a1, a2, a3⟩ | ⟨a1, a2, a3, a4⟩ <;> omega, (0 : UInt64), 2, .inr rfl, rfl, rfl, rfl⟩)
      ·replace h8 := of_decide_eq_false h8
       refine g_off rfl rfl rfl rfl <| g_off rfl rfl rfl rfl <| g_off rfl rfl rfl rfl <| pkf (.bool _) rfl rfl <| agb rfl <| jt <| c_false rfl <| csr <| mki (v := (.int _ _)) rfl uy212 rfl <| agi rfl <| asg (.iface _ _) rfl <| jt <| c_ret ?_
       exact j_d (own0 := []) (ro0 := []) (.inl rfl) rfl (hr2 Tryz.results132 (rvt (v := (.int _ _)) rfl) (rvt (v := (.iface _ _)) rfl)) [0] [_] rfl (by kernel_rfl) rfl (.inr ⟨fun m hm e => by obtain ⟨k, k1, k2, k3, k4⟩ := HS m hm e; have e1 := congrArg UInt8.toNat k2; have e2 : ((List.getD w i 0) ||| 32).toNat = (dch k ||| 32).toNat := (by rw [k2]); rcases dch_low k (by omega) with ⟨a1, a2, a3⟩ | ⟨a1, a2, a3, a4⟩ <;> omega, (0 : UInt64), 2, .inr rfl, rfl, rfl, rfl⟩)
    ·replace h3 := of_decide_eq_false h3
     refine g_off rfl rfl rfl rfl <| pkf (.bool _) rfl rfl <| agb rfl <| jt <| c_false rfl <| csr <| mvi rfl <| cmp _ rfl rfl rfl <| mvb rfl <| jsplit 115 rfl (fun h10 => ?_) (fun h10 => ?_)
     ·replace h10 := of_decide_eq_true h10
      refine g_on rfl rfl rfl <| mvi rfl <| g_on rfl rfl rfl <| cmp _ rfl rfl rfl <| pkt (.bool _) rfl rfl <| agb rfl <| jt <| c_cond rfl (fun h11 => ?_) (fun h11 => ?_)
      ·replace h11 := of_decide_eq_true h11
       refine c_reg <| mvi rfl <| subU8 (a := (List.getD w i 0)) (b := (48 : UInt8)) rfl rfl <| agi rfl <| jn <| e_in ?_
       exact e_lp ((List.getD w i 0) - (48 : UInt8)) (by repeat (first | exact out_self | refine out_hav (by kernel_rfl) ?_ | refine out_look (by kernel_rfl) ?_)) (fun k hk k2 => by have e1 := congrArg UInt8.toNat k2; have e2 : ((List.getD w i 0) ||| 32).toNat = (dch k ||| 32).toNat := (by rw [k2]); rcases dch_low k (by omega) with ⟨a1, a2, a3⟩ | ⟨a1, a2, a3, a4⟩ <;> first | (rw [k2]; exact a3) | (rw [k2]; exact a4) | (exfalso; omega)) trivial (⟨rfl, rfl, trivial⟩) rfl rfl rfl
      ·replace h11 := of_decide_eq_false h11
       refine csr <| mvi rfl <| cal (lower_ct (List.getD w i 0)) [] [0] [_] rfl rfl rfl (by kernel_rfl) impl_nil rfl ?_; rintro _ _ _ ⟨rfl, rfl, rfl⟩; refine ⟨trivial, ?_⟩
       refine cmp _ rfl rfl rfl <| mvb rfl <| jsplit 125 rfl (fun h12 => ?_) (fun h12 => ?_)
       ·replace h12 := of_decide_eq_true h12
        refine g_on rfl rfl rfl <| mvi rfl <| g_on rfl rfl rfl <| cal (lower_ct (List.getD w i 0)) [] [0] [_] rfl rfl rfl (by kernel_rfl) impl_nil rfl ?_; rintro _ _ _ ⟨rfl, rfl, rfl⟩; refine ⟨trivial, ?_⟩
        refine g_on rfl rfl rfl <| cmp _ rfl rfl rfl <| pkt (.bool _) rfl rfl <| agb rfl <| jt <| c_cond rfl (fun h13 => ?_) (fun h13 => ?_)
        ·replace h13 := of_decide_eq_true h13
         refine c_reg <| mvi rfl <| cal (lower_ct (List.getD w i 0)) [] [0] [_] rfl rfl rfl (by kernel_rfl) impl_nil rfl ?_; rintro _ _ _ ⟨rfl, rfl, rfl⟩; refine ⟨trivial, ?_⟩
         refine subU8 (a := ((List.getD w i 0) ||| 32)) (b := (97 : UInt8)) rfl rfl <| addU8 (a := (((List.getD w i 0) ||| 32) - (97 : UInt8))) (b := (10 : UInt8)) rfl rfl <| agi rfl <| jn <| e_in ?_
         exact e_lp ((((List.getD w i 0) ||| 32) - (97 : UInt8)) + (10 : UInt8)) (by repeat (first | exact out_self | refine out_hav (by kernel_rfl) ?_ | refine out_look (by kernel_rfl) ?_)) (fun k hk k2 => by have e1 := congrArg UInt8.toNat k2; have e2 : ((List.getD w i 0) ||| 32).toNat = (dch k ||| 32).toNat := (by rw [k2]); rcases dch_low k (by omega) with ⟨a1, a2, a3⟩ | ⟨a1, a2, a3, a4⟩ <;> first | (rw [k2]; exact a3) | (rw [k2]; exact a4) | (exfalso; omega)) trivial (⟨rfl, rfl, trivial⟩) rfl rfl rfl
        ·replace h13 := of_decide_eq_false h13
         refine csr <| mki (v := (.int _ _)) rfl uy212 rfl <| agi rfl <| asg (.iface _ _) rfl <| jt <| c_ret ?_
         exact j_d (own0 := []) (ro0 := []) (.inl rfl) rfl (hr2 Tryz.results132 (rvt (v := (.int _ _)) rfl) (rvt (v := (.iface _ _)) rfl)) [0] [_] rfl (by kernel_rfl) rfl (.inr ⟨fun m hm e => by obtain ⟨k, k1, k2, k3, k4⟩ := HS m hm e; have e1 := congrArg UInt8.toNat k2; have e2 : ((List.getD w i 0) ||| 32).toNat = (dch k ||| 32).toNat := (by rw [k2]); rcases dch_low k (by omega) with ⟨a1, a2, a3⟩ | ⟨a1, a2, a3, a4⟩ <;> omega, (0 : UInt64), 2, .inr rfl, rfl, rfl, rfl⟩)
       ·replace h12 := of_decide_eq_false h12
        refine g_off rfl rfl rfl rfl <| g_off rfl rfl rfl rfl <| g_off rfl rfl rfl rfl <| pkf (.bool _) rfl rfl <| agb rfl <| jt <| c_false rfl <| csr <| mki (v := (.int _ _)) rfl uy212 rfl <| agi rfl <| asg (.iface _ _) rfl <| jt <| c_ret ?_
        exact j_d (own0 := []) (ro0 := []) (.inl rfl) rfl (hr2 Tryz.results132 (rvt (v := (.int _ _)) rfl) (rvt (v := (.iface _ _)) rfl)) [0] [_] rfl (by kernel_rfl) rfl (.inr ⟨fun m hm e => by obtain ⟨k, k1, k2, k3, k4⟩ := HS m hm e; have e1 := congrArg UInt8.toNat k2; have e2 : ((List.getD w i 0) ||| 32).toNat = (dch k ||| 32).toNat := (by rw [k2]); rcases dch_low k (by omega) with ⟨a1, a2, a3⟩ | ⟨a1, a2, a3, a4⟩ <;> omega, (0 : UInt64), 2, .inr rfl, rfl, rfl, rfl⟩)
     ·replace h10 := of_decide_eq_false h10
      refine g_off rfl rfl rfl rfl <| g_off rfl rfl rfl rfl <| pkf (.bool _) rfl rfl <| agb rfl <| jt <| c_false rfl <| csr <| mvi rfl <| cal (lower_ct (List.getD w i 0)) [] [0] [_] rfl rfl rfl (by kernel_rfl) impl_nil rfl ?_; rintro _ _ _ ⟨rfl, rfl, rfl⟩; refine ⟨trivial, ?_⟩
      refine cmp _ rfl rfl rfl <| mvb rfl <| jsplit 125 rfl (fun h14 => ?_) (fun h14 => ?_)
      ·replace h14 := of_decide_eq_true h14
       refine g_on rfl rfl rfl <| mvi rfl <| g_on rfl rfl rfl <| cal (lower_ct (List.getD w i 0)) [] [0] [_] rfl rfl rfl (by kernel_rfl) impl_nil rfl ?_; rintro _ _ _ ⟨rfl, rfl, rfl⟩; refine ⟨trivial, ?_⟩
       refine g_on rfl rfl rfl <| cmp _ rfl rfl rfl <| pkt (.bool _) rfl rfl <| agb rfl <| jt <| c_cond rfl (fun h15 => ?_) (fun h15 => ?_)
       ·replace h15 := of_decide_eq_true h15
        refine c_reg <| mvi rfl <| cal (lower_ct (List.getD w i 0)) [] [0] [_] rfl rfl rfl (by kernel_rfl) impl_nil rfl ?_; rintro _ _ _ ⟨rfl, rfl, rfl⟩; refine ⟨trivial, ?_⟩
        refine subU8 (a := ((List.getD w i 0) ||| 32)) (b := (97 : UInt8)) rfl rfl <| addU8 (a := (((List.getD w i 0) ||| 32) - (97 : UInt8))) (b := (10 : UInt8)) rfl rfl <| agi rfl <| jn <| e_in ?_
        exact e_lp ((((List.getD w i 0) ||| 32) - (97 : UInt8)) + (10 : UInt8)) (by repeat (first | exact out_self | refine out_hav (by kernel_rfl) ?_ | refine out_look (by kernel_rfl) ?_)) (fun k hk k2 => by have e1 := congrArg UInt8.toNat k2; have e2 : ((List.getD w i 0) ||| 32).toNat = (dch k ||| 32).toNat := (by rw [k2]); rcases dch_low k (by omega) with ⟨a1, a2, a3⟩ | ⟨a1, a2, a3, a4⟩ <;> first | (rw [k2]; exact a3) | (rw [k2]; exact a4) | (exfalso; omega)) trivial (⟨rfl, rfl, trivial⟩) rfl rfl rfl
       ·replace h15 := of_decide_eq_false h15
        refine csr <| mki (v := (.int _ _)) rfl uy212 rfl <| agi rfl <| asg (.iface _ _) rfl <| jt <| c_ret ?_
        exact j_d (own0 := []) (ro0 := []) (.inl rfl) rfl (hr2 Tryz.results132 (rvt (v := (.int _ _)) rfl) (rvt (v := (.iface _ _)) rfl)) [0] [_] rfl (by kernel_rfl) rfl (.inr ⟨fun m hm e => by obtain ⟨k, k1, k2, k3, k4⟩ := HS m hm e; have e1 := congrArg UInt8.toNat k2; have e2 : ((List.getD w i 0) ||| 32).toNat = (dch k ||| 32).toNat := (by rw [k2]); rcases dch_low k (by omega) with ⟨a1, a2, a3⟩ | ⟨a1, a2, a3, a4⟩ <;> omega, (0 : UInt64), 2, .inr rfl, rfl, rfl, rfl⟩)
      ·replace h14 := of_decide_eq_false h14
       refine g_off rfl rfl rfl rfl <| g_off rfl rfl rfl rfl <| g_off rfl rfl rfl rfl <| pkf (.bool _) rfl rfl <| agb rfl <| jt <| c_false rfl <| csr <| mki (v := (.int _ _)) rfl uy212 rfl <| agi rfl <| asg (.iface _ _) rfl <| jt <| c_ret ?_
       exact j_d (own0 := []) (ro0 := []) (.inl rfl) rfl (hr2 Tryz.results132 (rvt (v := (.int _ _)) rfl) (rvt (v := (.iface _ _)) rfl)) [0] [_] rfl (by kernel_rfl) rfl (.inr ⟨fun m hm e => by obtain ⟨k, k1, k2, k3, k4⟩ := HS m hm e; have e1 := congrArg UInt8.toNat k2; have e2 : ((List.getD w i 0) ||| 32).toNat = (dch k ||| 32).toNat := (by rw [k2]); rcases dch_low k (by omega) with ⟨a1, a2, a3⟩ | ⟨a1, a2, a3, a4⟩ <;> omega, (0 : UInt64), 2, .inr rfl, rfl, rfl, rfl⟩)
   ·rintro d g hC1
    try dsimp only at hC1 ⊢
    refine c_seq <| csr <| mvi rfl <| mvi rfl <| cvI 16 rfl uy3 uy5 (by kernel_rfl) <| cmp _ rfl rfl rfl <| jt <| c_cond rfl (fun h16 => ?_) (fun h16 => ?_)
    ·replace h16 := of_decide_eq_true h16
     refine csr <| mki (v := (.int _ _)) rfl uy212 rfl <| agi rfl <| asg (.iface _ _) rfl <| jt <| c_ret ?_
     exact j_d (own0 := []) (ro0 := []) (.inl rfl) rfl (hr2 Tryz.results132 (rvt (v := (.int _ _)) rfl) (rvt (v := (.iface _ _)) rfl)) [0] [_] rfl (by kernel_rfl) rfl (.inr ⟨fun m hm e => by obtain ⟨k, k1, k2, k3, k4⟩ := HS m hm e; have h9 := hC1 k k1 k2; omega, (0 : UInt64), 2, .inr rfl, rfl, rfl, rfl⟩)
    ·replace h16 := of_decide_eq_false h16
     refine c_skip <| e_then <| c_seq <| csr <| mvi rfl <| mvi rfl <| cmp _ rfl rfl rfl <| jt <| c_cond rfl (fun h17 => ?_) (fun h17 => ?_)
     ·replace h17 := of_decide_eq_true h17
      refine csr <| mvi rfl <| mki (v := (.int _ _)) rfl uy212 rfl <| agi rfl <| asg (.iface _ _) rfl <| jt <| c_ret ?_
      exact j_d (own0 := []) (ro0 := []) (.inl rfl) rfl (hr2 Tryz.results132 (rvt (v := (.int _ _)) rfl) (rvt (v := (.iface _ _)) rfl)) [0] [_] rfl (by kernel_rfl) rfl (.inr ⟨fun m hm e => by obtain ⟨k, k1, k2, k3, k4⟩ := HS m hm e; have h9 := hC1 k k1 k2; omega, (4294967295 : UInt64), 1, .inl ⟨rfl, rfl⟩, rfl, rfl, rfl⟩)
     ·replace h17 := of_decide_eq_false h17
      refine c_skip <| e_then <| csr <| mvi rfl <| mvi rfl <| cvI 16 rfl uy3 uy72 (by kernel_rfl) <| mulU64 (a := n) (b := (16 : UInt64)) rfl rfl <| agi rfl <| jsr <| mvi rfl <| mvi rfl <| cvNU64 (n := d.toNat) rfl uy5 uy72 <| addU64 (a := (n * (16 : UInt64))) (b := (UInt64.ofNat d.toNat)) rfl rfl <| agi rfl <| jt <| c_seq <| c_seq ?_
      have HD := d.toNat_lt
      have HM : (n * 16).toNat = n.toNat * 16 := by rw [UInt64.toNat_mul]; show n.toNat * 16 % 2 ^ 64 = _; omega
      have HN : (n * 16 + UInt64.ofNat d.toNat).toNat = (n.toNat * 16 + d.toNat) % 18446744073709551616 := by rw [UInt64.toNat_add, HM, UInt64.toNat_ofNat', Nat.mod_eq_of_lt (a := d.toNat) (by omega)]
      refine c_reg <| mvi rfl <| mvi rfl <| cmp _ rfl rfl rfl <| mvb rfl <| jsplit 155 rfl (fun h18 => ?_) (fun h18 => ?_)
      ·replace h18 := of_decide_eq_true h18
       refine g_off rfl rfl rfl rfl <| g_off rfl rfl rfl rfl <| g_off rfl rfl rfl rfl <| pkt (.bool _) rfl rfl <| jt <| c_true rfl <| csr <| mvi rfl <| mki (v := (.int _ _)) rfl uy212 rfl <| agi rfl <| asg (.iface _ _) rfl <| jt <| c_ret ?_
       exact j_d (own0 := []) (ro0 := []) (.inl rfl) rfl (hr2 Tryz.results132 (rvt (v := (.int _ _)) rfl) (rvt (v := (.iface _ _)) rfl)) [0] [_] rfl (by kernel_rfl) rfl (.inr ⟨fun m hm e => by obtain ⟨k, k1, k2, k3, k4⟩ := HS m hm e; have h9 := hC1 k k1 k2; omega, (4294967295 : UInt64), 1, .inl ⟨rfl, rfl⟩, rfl, rfl, rfl⟩)
      ·replace h18 := of_decide_eq_false h18
       refine g_on rfl rfl rfl <| mvi rfl <| g_on rfl rfl rfl <| mvi rfl <| g_on rfl rfl rfl <| cmp _ rfl rfl rfl <| pkf (.bool _) rfl rfl <| jt <| c_cond rfl (fun h19 => ?_) (fun h19 => ?_)
       ·replace h19 := of_decide_eq_true h19
        refine csr <| mvi rfl <| mki (v := (.int _ _)) rfl uy212 rfl <| agi rfl <| asg (.iface _ _) rfl <| jt <| c_ret ?_
        exact j_d (own0 := []) (ro0 := []) (.inl rfl) rfl (hr2 Tryz.results132 (rvt (v := (.int _ _)) rfl) (rvt (v := (.iface _ _)) rfl)) [0] [_] rfl (by kernel_rfl) rfl (.inr ⟨fun m hm e => by obtain ⟨k, k1, k2, k3, k4⟩ := HS m hm e; have h9 := hC1 k k1 k2; omega, (4294967295 : UInt64), 1, .inl ⟨rfl, rfl⟩, rfl, rfl, rfl⟩)
       ·replace h19 := of_decide_eq_false h19
        refine c_skip <| e_then <| c_reg <| mvi rfl <| agi rfl <| jn <| e_in <| e_then <| c_reg <| addi rfl rfl rfl (by omega) <| mvi rfl <| jn ?_
        exact e_lp (i + 1, ((n * (16 : UInt64)) + (UInt64.ofNat d.toNat))) (by repeat (first | exact out_self | refine out_hav (by kernel_rfl) ?_ | refine out_look (by kernel_rfl) ?_)) (⟨by omega, fun m hm e => by obtain ⟨k, k1, k2, k3, k4⟩ := HS m hm e; have h9 := hC1 k k1 k2; rw [← k3, HN]; omega⟩) (by show w.length - (i + 1) < w.length - i; omega) (⟨rfl, rfl, rfl, trivial⟩) rfl rfl rfl
  ·replace h2 := of_decide_eq_false h2
   refine c_exit rfl <| e_then <| c_seq <| csr <| mvb rfl <| mvb rfl <| g_off rfl rfl rfl rfl <| g_off rfl rfl rfl rfl <| g_off rfl rfl rfl rfl <| pkf (.bool _) rfl rfl <| jt <| c_false rfl <| c_skip <| e_then <| csr <| mvi rfl <| agi rfl <| asg .nilIface rfl <| jt <| c_ret ?_
   exact j_d (own0 := []) (ro0 := []) (.inl rfl) rfl (hr2 Tryz.results132 (rvt (v := (.int _ _)) rfl) (rvt (v := .nilIface) rfl)) [0] [_] rfl (by kernel_rfl) rfl (.inl ⟨_, fun m hm e => by have h9 := hI1.2 m hm e; rw [show w.length - i = 0 by omega, Nat.pow_zero, Nat.div_one] at h9; exact h9, rfl, rfl, rfl⟩)
end Go.Proofs.YtakbbpahfclgnaaGreatDoor
namespace Go.PW
open Enc (enc val)
open Go
theorem Ow.ok_copy {α : Type} [Enc α] {o : Ow} {xs ys : List α} (h : o.ok xs) (hl : ys.length ≤ xs.length) : o.ok (ys ++ xs.drop ys.length) := by
  have e : (ys ++ xs.drop ys.length).length = xs.length := by rw [List.length_append, List.length_drop]; omega
  refine ⟨fun hn => ?_, fun hn => by rw [e]; exact h.len hn, by rw [e]; exact h.le⟩
  obtain ⟨rfl, hc⟩ := h.nl hn
  have : ys = [] := List.eq_nil_of_length_eq_zero (by simpa using hl)
  subst this
  exact ⟨rfl, hc⟩
theorem copy_all {α : Type} {s : List α} {z : α} : s ++ (List.replicate s.length z).drop s.length = s := by simp
section
variable {cx : Cx} {md : Md} {ops : Array Oper} {Q : Exit → Act → World → Prop} {rest : List (Oper × Nat)} {kq : Nat} {base : Nat → Value} {L : List (Nat × Value)} {own ro : List Seg}
variable {q : Nat} {d : Nat} {ty : TypeId} {pos : String} {aft : Array Edge} {x y z : Operand} {xt yt : TypeId} {k k2 : IntKind}
theorem quon {a b : Nat} (hx : ev cx.n base L x = .int .i64 (a : Int)) (hy : ev cx.n base L y = .int .i64 (b : Int)) (hb : b ≠ 0) (ha : a ≤ 9223372036854775807)
    (h : JG cx md ops Q rest base ((d, .int .i64 ((a / b : Nat) : Int)) :: L) own ro) : JG cx md ops Q ((⟨some d, .binOp .quo xt x y yt, ty, pos, aft, none⟩, q) :: rest) base L own ro :=
  quoi hx hy (by omega) (by rw [← Int.ofNat_tdiv]; have := Nat.div_le_self a b; generalize a / b = z at *; omega) (by rw [← Int.ofNat_tdiv]; exact h)
end
theorem or8 {a : UInt64} {x : UInt8} (ha : a.toNat < 72057594037927936) : (shlU64 a 8 ||| UInt64.ofNat x.toNat).toNat = a.toNat * 256 + x.toNat := by
  have hx := x.toNat_lt
  rw [UInt64.toNat_or, shlU64_toNat, UInt64.toNat_ofNat', Nat.mod_eq_of_lt (by omega), Nat.mod_eq_of_lt (by omega)]
  have := Nat.shiftLeft_add_eq_or_of_lt (b := x.toNat) (i := 8) hx a.toNat
  rw [Nat.shiftLeft_eq] at this
  exact this.symm
theorem hval_byte {w : Str} {n j : Nat} (hw : w.length = 2 * n) (hk : hexok w = true) (hj : j < n) : hval w (2 * (j + 1)) = hval w (2 * j) * 256 + (List.getD (hexb w n) j 0).toNat := by
  have h1 := hexok_get hk (i := 2 * j) (by omega)
  have h2 := hexok_get hk (i := 2 * j + 1) (by omega)
  rw [show 2 * (j + 1) = 2 * j + 1 + 1 by omega, hval_step (by omega), hval_step (by omega)]
  unfold hexb
  rw [hrow_get hj]
  unfold hbyte
  rw [if_pos (by omega), bn (by omega)]; omega
theorem ofInt_hex {n : Nat} (h : n < 16) : UInt8.ofInt (n : Int) = UInt8.ofNat n := by
  apply UInt8.toNat_inj.1
  show (UInt8.ofNat ((n : Int) % 2 ^ 8).toNat).toNat = _
  congr 2; omega
theorem hrow_ok {n b : Nat} {ys : Str} (h : ys.length = n) : Ow.ok ⟨false, b, n, encs (List.replicate (n - n) (0 : UInt8))⟩ ys := by
  subst h
  exact ⟨fun h => by simp at h, fun _ => by simp [encs], Nat.le_refl _⟩
theorem hrow_go {w ys : Str} {n i : Nat} {rt : Bool} (h : i ≤ w.length ∧ ys.length = n ∧ (rt = true → w.length = 2 * n ∧ ys = hrow w n i ∧ ∀ j, j < i → hexv (List.getD w j 0) < 16) ∧ (rt = false → ¬(w.length = 2 * n ∧ hexok w = true))) (hr : rt = true) (hi : i < w.length) :
    i + 1 ≤ w.length ∧ (ys.set (i / 2) (shlU8 (List.getD ys (i / 2) 0) 4 ||| UInt8.ofInt (idxB hexL (List.getD w i 0)))).length = n ∧
    (decide (0 ≤ idxB hexL (List.getD w i 0)) = true → w.length = 2 * n ∧ ys.set (i / 2) (shlU8 (List.getD ys (i / 2) 0) 4 ||| UInt8.ofInt (idxB hexL (List.getD w i 0))) = hrow w n (i + 1) ∧ ∀ j, j < i + 1 → hexv (List.getD w j 0) < 16) ∧
    (decide (0 ≤ idxB hexL (List.getD w i 0)) = false → ¬(w.length = 2 * n ∧ hexok w = true)) := by
  obtain ⟨h1, h2, h3, _⟩ := h
  obtain ⟨h4, h5, h6⟩ := h3 hr
  refine ⟨hi, by rw [List.length_set]; exact h2, fun h => ?_, fun h => ?_⟩
  · have h := of_decide_eq_true h
    have hx : hexv (List.getD w i 0) < 16 := by
      rw [idx_hex] at h
      by_cases hh : hexv (List.getD w i 0) < 16
      · exact hh
      · rw [if_neg hh] at h; omega
    refine ⟨h4, ?_, fun j hj => ?_⟩
    · rw [idx_hex, if_pos hx, ofInt_hex hx, h5]; exact (hrow_step (by omega) hx h6).symm
    · rcases Nat.lt_succ_iff_lt_or_eq.1 hj with h | h
      · exact h6 j h
      · subst h; exact hx
  · have h := of_decide_eq_false h
    have hx : ¬ hexv (List.getD w i 0) < 16 := fun hh => h (by rw [idx_hex, if_pos hh]; omega)
    intro hc
    rw [hexok_no hi hx] at hc; cases hc.2
def degR (s : Str) (M : F64) (p : Nat) : PR F64 := match hexR s 8 p with
  | .inl q => .inl q
  | .inr (w, q) => if oddB (degB w) M = true then .inl (p + 1) else .inr (degB w, q)
theorem degR_l {s : Str} {M : F64} {p q : Nat} (h : hexR s 8 p = .inl q) : degR s M p = .inl q := by unfold degR; rw [h]
theorem degR_odd {s : Str} {M : F64} {p q : Nat} {w : Str} (h : hexR s 8 p = .inr (w, q)) (ho : oddB (degB w) M = true) : degR s M p = .inl (p + 1) := by unfold degR; rw [h]; simp only; rw [if_pos ho]
theorem degR_ok {s : Str} {M : F64} {p q : Nat} {w : Str} (h : hexR s 8 p = .inr (w, q)) (ho : oddB (degB w) M = false) : degR s M p = .inr (degB w, q) := by unfold degR; rw [h]; simp only; rw [if_neg (by rw [ho]; decide)]
theorem blk_lt {s : Str} {p : Nat} (h : blk s p = true) : p < s.length := by simp only [blk, Bool.and_eq_true, decide_eq_true_eq] at h; exact h.1
theorem hexR_next {s : Str} {n p q : Nat} {w : Str} (h : hexR s n p = .inr (w, q)) : p < q ∧ q ≤ s.length ∧ w.length = 2 * n ∧ hexok w = true := by
  unfold hexR at h
  by_cases hb : blk s p = true
  · rw [if_pos hb] at h
    have hp := blk_lt hb
    have := wlen_le s (p + 1)
    by_cases h2 : wlen s (p + 1) = 2 * n ∧ hexok (word s (p + 1)) = true
    · rw [if_pos h2] at h; cases h
      exact ⟨by omega, by omega, by rw [word_length]; exact h2.1, h2.2⟩
    · rw [if_neg h2] at h; cases h
  · rw [if_neg hb] at h; cases h
theorem blk_yes {s : Str} {p : Nat} (h : p < s.length) (h2 : List.getD s p 0 = 32) : blk s p = true := by unfold blk; rw [decide_eq_true h, decide_eq_true h2]; rfl
theorem blk_out {s : Str} {p : Nat} (h : ¬ p < s.length) : blk s p = false := by unfold blk; rw [decide_eq_false h]; rfl
theorem blk_no {s : Str} {p : Nat} (h2 : ¬ List.getD s p 0 = 32) : blk s p = false := by unfold blk; rw [decide_eq_false h2, Bool.and_false]
end Go.PW
namespace Go.Proofs.YtakbbpahfclgnaaGreatDoor
open Go Go.Proofs Go.PW
open Go.PW.Enc (enc val)
theorem zw5 : Zt Tryz.prog 5 (val (0 : UInt8)) := by unfold Zt; kernel_rfl
theorem ty24 : Ty Tryz.prog 24 1 false := ⟨by kernel_rfl, by kernel_rfl⟩
theorem lay224 : ∀ fs, Tryz.prog.underlying 224 = some (.struct fs) → Lay Tryz.prog fs [(0, 1), (1, 1), (2, 1)] := fun fs h => by rw [Tryz.underlying224] at h; cases h; unfold Lay; kernel_rfl
theorem z224 : Zt Tryz.prog 224 (.agg ⟨cat [pt ([] : Str), pt ([] : Str), p1 .nilIface]⟩) := by unfold Zt; kernel_rfl
theorem Clone_ct (s : Str) (hs : s.length ≤ 140737488351232) : Ct Tryz.prog 160 [strV s] [] [] (fun v o r => v = strV s ∧ o = [] ∧ r = []) := by
 refine ct_enter Tryz.func160 rfl Tryz.ntmps160 (by kernel_rfl) rfl fun w0 => ?_
 refine csr <| ags rfl <| jt <| c_seq <| csr <| mvs rfl <| lenT (s := s) rfl uy9 <| cmp _ rfl rfl rfl <| jt <| c_cond rfl (fun h1 => ?_) (fun h1 => ?_)
 ·replace h1 := of_decide_eq_true h1
  refine csr <| ags rfl <| jt <| c_ret ?_
  exact j_z (own0 := []) (ro0 := []) (.inl rfl) rfl (hr1 Tryz.results160 (rvt (v := (.string _)) rfl)) rfl (⟨by rw [List.eq_nil_of_length_eq_zero (show s.length = 0 by omega)], rfl, rfl⟩)
 ·replace h1 := of_decide_eq_false h1
  refine c_skip <| e_then <| csr <| mvs rfl <| lenT (s := s) rfl uy9 <| mks (0 : UInt8) s.length s.length rfl rfl rfl rfl (Nat.le_refl _) uy93 ty5.sz by5 zw5 (by omega) rfl fun b9 => ⟨trivial, ?_⟩
  refine agl rfl <| jsr <| mvl rfl <| mvs rfl <| cpy 0 (⟨false, b9, s.length, encs (List.replicate (s.length - s.length) (0 : UInt8))⟩ : Ow) (List.replicate s.length (0 : UInt8)) s (mks_ok (0 : UInt8) b9 s.length s.length (Nat.le_refl _)) rfl rfl (by simp) rfl rfl (gives_str s) (by simp) uy93 ty5.sz ⟨trivial, ?_⟩
  refine jsr <| mvl rfl <| ixs (((⟨false, b9, s.length, encs (List.replicate (s.length - s.length) (0 : UInt8))⟩ : Ow)).vs) (s ++ List.drop s.length (List.replicate s.length (0 : UInt8))) 0 (Ow.vs_ok (Ow.ok_copy (mks_ok (0 : UInt8) b9 s.length s.length (Nat.le_refl _)) (by simp))) rfl (by simp) rfl uy93 ty5.sz rfl (by simp; omega) <| mvl rfl <| lenS rfl uy93 <| ust 0 (Ow.ok_copy (mks_ok (0 : UInt8) b9 s.length s.length (Nat.le_refl _)) (by simp)) rfl rfl rfl (by simp) rfl uy211 (by kernel_rfl) (by simp; omega) ⟨trivial, ?_⟩
  refine ags rfl <| jt <| c_ret ?_
  exact j_d (own0 := []) (ro0 := []) (.inl rfl) rfl (hr1 Tryz.results160 (rvt (v := (.string _)) rfl)) [0] [_] rfl (by kernel_rfl) rfl (⟨by rw [copy_all], rfl, rfl⟩)
theorem synErr_ct (f s : Str) (hs : s.length ≤ 140737488351232) (eu : TypeId) (ev : Value) : Ct Tryz.prog 147 [strV f, strV s] [] [tIf 7 eu ev] (fun v o r => ∃ b : Nat, v = .pointer (some ⟨b, 0, none⟩) ∧ o = [] ∧ r = []) := by
 refine ct_enter Tryz.func147 rfl Tryz.ntmps147 (by kernel_rfl) rfl fun w0 => ?_
 refine csr <| agp rfl <| jt <| c_seq <| c_dr [_] [] [(0, 0), (1, 0), (3, 0), (2, 1), (4, 0), (5, 1), (6, 0)] follows (by kernel_rfl) calm_body (keepS [0] rfl) <| mvs rfl <| mvs rfl <| ldv1 0 rfl rfl rfl ty24 <| cal (Clone_ct s (by omega)) [] [] [] rfl rfl rfl (by kernel_rfl) impl_nil rfl ?_; rintro _ _ _ ⟨rfl, rfl, rfl⟩; refine ⟨keepI [0] rfl, ?_⟩
 refine bld [pt ([] : Str), pt ([] : Str), p1 .nilIface] [(0, pt f), (1, pt s), (2, p1 (.iface eu ev))] _ uy224 (lay224 _ uy224) z224 rfl rfl rfl <| bxx [pt f, pt s, p1 (.iface eu ev)] _ rfl rfl fun b10 => ⟨keepI [1] rfl, ?_⟩
 refine agp rfl <| jt <| c_ret ?_
 exact j_d (own0 := []) (ro0 := [tIf 7 eu ev]) (.inl rfl) rfl (hr1 Tryz.results147 (rvt (v := (.pointer _)) rfl)) [0] [_] rfl (by kernel_rfl) rfl (⟨_, rfl, rfl, rfl⟩)
theorem rngErr_ct (f s : Str) (hs : s.length ≤ 140737488351232) (ru : TypeId) (rv : Value) : Ct Tryz.prog 148 [strV f, strV s] [] [tIf 8 ru rv] (fun v o r => ∃ b : Nat, v = .pointer (some ⟨b, 0, none⟩) ∧ o = [] ∧ r = []) := by
 refine ct_enter Tryz.func148 rfl Tryz.ntmps148 (by kernel_rfl) rfl fun w0 => ?_
 refine csr <| agp rfl <| jt <| c_seq <| c_dr [_] [] [(0, 0), (1, 0), (3, 0), (2, 1), (4, 0), (5, 1), (6, 0)] follows (by kernel_rfl) calm_body (keepS [0] rfl) <| mvs rfl <| mvs rfl <| ldv1 0 rfl rfl rfl ty24 <| cal (Clone_ct s (by omega)) [] [] [] rfl rfl rfl (by kernel_rfl) impl_nil rfl ?_; rintro _ _ _ ⟨rfl, rfl, rfl⟩; refine ⟨keepI [0] rfl, ?_⟩
 refine bld [pt ([] : Str), pt ([] : Str), p1 .nilIface] [(0, pt f), (1, pt s), (2, p1 (.iface ru rv))] _ uy224 (lay224 _ uy224) z224 rfl rfl rfl <| bxx [pt f, pt s, p1 (.iface ru rv)] _ rfl rfl fun b10 => ⟨keepI [1] rfl, ?_⟩
 refine agp rfl <| jt <| c_ret ?_
 exact j_d (own0 := []) (ro0 := [tIf 8 ru rv]) (.inl rfl) rfl (hr1 Tryz.results148 (rvt (v := (.pointer _)) rfl)) [0] [_] rfl (by kernel_rfl) rfl (⟨_, rfl, rfl, rfl⟩)
theorem toError1_ct (f s : Str) (b z : Int) (hs : s.length ≤ 140737488351232) (eu : TypeId) (ev : Value) (ru : TypeId) (rv : Value) : Ct Tryz.prog 133 [strV f, strV s, .int .i64 b, .int .i64 z, .iface 212 (.int .i64 1)] [] [tIf 7 eu ev, tIf 8 ru rv] (fun v o r => ∃ (u : TypeId) (x : Value), v = .iface u x ∧ o = [] ∧ r = []) := by
 refine ct_enter Tryz.func133 rfl Tryz.ntmps133 (by kernel_rfl) rfl fun w0 => ?_
 refine csr <| asg .nilIface rfl <| jt <| c_seq <| csr <| mv (.iface _ _) rfl <| jt <| c_block <| csr <| mki (v := (.int _ _)) rfl uy212 rfl <| eqii false rfl rfl uy24 uy212 (by kernel_rfl) rfl <| agb rfl <| jt <| c_false rfl <| csr <| mki (v := (.int _ _)) rfl uy212 rfl <| eqii true rfl rfl uy24 uy212 (by kernel_rfl) rfl <| agb rfl <| jt <| c_true rfl <| csr <| mvs rfl <| mvs rfl <| cal (rngErr_ct f s (by omega) ru rv) [] [] [] rfl rfl rfl (by kernel_rfl) (impl_cons (impl_at 1 rfl) impl_nil) rfl ?_; rintro _ _ _ ⟨pb1, rfl, rfl, rfl⟩; refine ⟨trivial, ?_⟩
 refine mki (v := (.pointer _)) rfl uy214 rfl <| asg (.iface _ _) rfl <| jt <| c_ret ?_
 exact j_z (own0 := []) (ro0 := [tIf 7 eu ev, tIf 8 ru rv]) (.inl rfl) rfl (hr1 Tryz.results133 (rvt (v := (.iface _ _)) rfl)) rfl (⟨_, _, rfl, rfl, rfl⟩)
theorem toError2_ct (f s : Str) (b z : Int) (hs : s.length ≤ 140737488351232) (eu : TypeId) (ev : Value) (ru : TypeId) (rv : Value) : Ct Tryz.prog 133 [strV f, strV s, .int .i64 b, .int .i64 z, .iface 212 (.int .i64 2)] [] [tIf 7 eu ev, tIf 8 ru rv] (fun v o r => ∃ (u : TypeId) (x : Value), v = .iface u x ∧ o = [] ∧ r = []) := by
 refine ct_enter Tryz.func133 rfl Tryz.ntmps133 (by kernel_rfl) rfl fun w0 => ?_
 refine csr <| asg .nilIface rfl <| jt <| c_seq <| csr <| mv (.iface _ _) rfl <| jt <| c_block <| csr <| mki (v := (.int _ _)) rfl uy212 rfl <| eqii true rfl rfl uy24 uy212 (by kernel_rfl) rfl <| agb rfl <| jt <| c_true rfl <| csr <| mvs rfl <| mvs rfl <| cal (synErr_ct f s (by omega) eu ev) [] [] [] rfl rfl rfl (by kernel_rfl) (impl_cons (impl_at 0 rfl) impl_nil) rfl ?_; rintro _ _ _ ⟨pb1, rfl, rfl, rfl⟩; refine ⟨trivial, ?_⟩
 refine mki (v := (.pointer _)) rfl uy214 rfl <| asg (.iface _ _) rfl <| jt <| c_ret ?_
 exact j_z (own0 := []) (ro0 := [tIf 7 eu ev, tIf 8 ru rv]) (.inl rfl) rfl (hr1 Tryz.results133 (rvt (v := (.iface _ _)) rfl)) rfl (⟨_, _, rfl, rfl, rfl⟩)
theorem sParseUint_ct (w : Str) (hw : w.length ≤ 140737488351232) (eu : TypeId) (ev : Value) (ru : TypeId) (rv : Value) : Ct Tryz.prog 107 [strV w, .int .i64 10, .int .i64 64] [] [tIf 7 eu ev, tIf 8 ru rv] (fun v o r => (∃ n : UInt64, (∀ m, m ≤ 18446744073709551615 → w = fmtN 10 m → n.toNat = m) ∧ v = .tuple #[.int .u64 (n.toNat : Int), .nilIface] ∧ o = [] ∧ r = []) ∨ ((∀ m, m ≤ 18446744073709551615 → w ≠ fmtN 10 m) ∧ ∃ (n : UInt64) (u : TypeId) (x : Value), v = .tuple #[.int .u64 (n.toNat : Int), .iface u x] ∧ o = [] ∧ r = [])) := by
 refine ct_enter Tryz.func107 rfl Tryz.ntmps107 (by kernel_rfl) rfl fun w0 => ?_
 refine csr <| agi rfl <| asg .nilIface rfl <| jsr <| mvs rfl <| mvi rfl <| mvi rfl <| cal (iParseUint10_ct w (by omega)) [] [] [] rfl rfl rfl (by kernel_rfl) impl_nil rfl ?_; rintro _ _ _ (⟨pn1, hp1, rfl, rfl, rfl⟩ | ⟨hp1, pn1, _, ⟨rfl, hmx1⟩ | rfl, rfl, rfl, rfl⟩)
 ·refine ⟨trivial, ?_⟩
  refine mv (.tuple _) rfl <| xtr (.int _ _) rfl rfl <| xtr .nilIface rfl rfl <| agi rfl <| asg .nilIface rfl <| jt <| c_seq <| csr <| mv .nilIface rfl <| eqnn false rfl uy24 rfl <| jt <| c_false rfl <| c_skip <| e_then <| csr <| mvi rfl <| agi rfl <| asg .nilIface rfl <| jt <| c_ret ?_
  exact j_z (own0 := []) (ro0 := [tIf 7 eu ev, tIf 8 ru rv]) (.inl rfl) rfl (hr2 Tryz.results107 (rvt (v := (.int _ _)) rfl) (rvt (v := .nilIface) rfl)) rfl (.inl ⟨_, hp1, rfl, rfl, rfl⟩)
 ·refine ⟨trivial, ?_⟩
  refine mv (.tuple _) rfl <| xtr (.int _ _) rfl rfl <| xtr (.iface _ _) rfl rfl <| agi rfl <| asg (.iface _ _) rfl <| jt <| c_seq <| csr <| mv (.iface _ _) rfl <| eqin true rfl rfl uy24 rfl <| jt <| c_true rfl <| csr <| mvi rfl <| mvs rfl <| mvi rfl <| mvi rfl <| mv (.iface _ _) rfl <| cal (toError1_ct ([80, 97, 114, 115, 101, 85, 105, 110, 116] : Str) w 10 64 (by omega) eu ev ru rv) [] [] [] rfl rfl rfl (by kernel_rfl) (impl_cons (impl_at 0 rfl) (impl_cons (impl_at 1 rfl) impl_nil)) rfl ?_; rintro _ _ _ ⟨tu2, tv2, rfl, rfl, rfl⟩; refine ⟨trivial, ?_⟩
  refine agi rfl <| asg (.iface _ _) rfl <| jt <| c_ret ?_
  exact j_z (own0 := []) (ro0 := [tIf 7 eu ev, tIf 8 ru rv]) (.inl rfl) rfl (hr2 Tryz.results107 (rvt (v := (.int _ _)) rfl) (rvt (v := (.iface _ _)) rfl)) rfl (.inr ⟨hp1, _, _, _, rfl, rfl, rfl⟩)
 ·refine ⟨trivial, ?_⟩
  refine mv (.tuple _) rfl <| xtr (.int _ _) rfl rfl <| xtr (.iface _ _) rfl rfl <| agi rfl <| asg (.iface _ _) rfl <| jt <| c_seq <| csr <| mv (.iface _ _) rfl <| eqin true rfl rfl uy24 rfl <| jt <| c_true rfl <| csr <| mvi rfl <| mvs rfl <| mvi rfl <| mvi rfl <| mv (.iface _ _) rfl <| cal (toError2_ct ([80, 97, 114, 115, 101, 85, 105, 110, 116] : Str) w 10 64 (by omega) eu ev ru rv) [] [] [] rfl rfl rfl (by kernel_rfl) (impl_cons (impl_at 0 rfl) (impl_cons (impl_at 1 rfl) impl_nil)) rfl ?_; rintro _ _ _ ⟨tu3, tv3, rfl, rfl, rfl⟩; refine ⟨trivial, ?_⟩
  refine agi rfl <| asg (.iface _ _) rfl <| jt <| c_ret ?_
  exact j_z (own0 := []) (ro0 := [tIf 7 eu ev, tIf 8 ru rv]) (.inl rfl) rfl (hr2 Tryz.results107 (rvt (v := (.int _ _)) rfl) (rvt (v := (.iface _ _)) rfl)) rfl (.inr ⟨hp1, _, _, _, rfl, rfl, rfl⟩)
end Go.Proofs.YtakbbpahfclgnaaGreatDoor
namespace Go.Proofs.YtakbbpahfclgnaaGreatDoor
open Go Go.Proofs Go.PW
open Go.PW.Enc (enc val)
theorem ty4 : Ty Tryz.prog 4 1 false := ⟨by kernel_rfl, by kernel_rfl⟩
theorem ty3 : Ty Tryz.prog 3 1 false := ⟨by kernel_rfl, by kernel_rfl⟩
theorem ty9 : Ty Tryz.prog 9 1 false := ⟨by kernel_rfl, by kernel_rfl⟩
theorem begin_bad (b : Nat) (s : Str) (p : Nat) (hs : s.length ≤ 140737488351232) (hp : p ≤ s.length) : Ct Tryz.prog 103 [.pointer (some ⟨b, 0, none⟩)] [[(b, .cells (cat [pt s, p1 (.int .i64 ((p : Nat) : Int)), p1 (.bool true)]) 137)]] [] (fun v o r => v = .bool false ∧ o = [[(b, .cells (cat [pt s, p1 (.int .i64 ((p : Nat) : Int)), p1 (.bool true)]) 137)]] ∧ r = []) := by
 refine ct_enter Tryz.func103 rfl Tryz.ntmps103 (by kernel_rfl) rfl fun w0 => ?_
 refine csr <| agb rfl <| jt <| c_seq <| c_seq <| c_dr [_] [] [(0, 0), (1, 0), (2, 0), (3, 0), (4, 0), (5, 0), (6, 0), (7, 0), (8, 0), (9, 0), (10, 0), (11, 0), (12, 0), (13, 0), (14, 0), (15, 0), (16, 0), (17, 0), (18, 0), (19, 0), (20, 0), (21, 0), (22, 0), (23, 0), (24, 0), (25, 0), (26, 0), (27, 0)] follows (by kernel_rfl) calm_body (keepS [0] rfl) <| mvp rfl <| nlc rfl <| fad rfl uy137 rfl ty4.sz <| ldp 0 2 _ rfl rfl rfl rfl ty4 <| mvb rfl <| g_off rfl rfl rfl rfl <| g_off rfl rfl rfl rfl <| g_off rfl rfl rfl rfl <| g_off rfl rfl rfl rfl <| g_off rfl rfl rfl rfl <| g_off rfl rfl rfl rfl <| g_off rfl rfl rfl rfl <| g_off rfl rfl rfl rfl <| g_off rfl rfl rfl rfl <| g_off rfl rfl rfl rfl <| pkt (.bool _) rfl rfl <| mvb rfl <| g_off rfl rfl rfl rfl <| g_off rfl rfl rfl rfl <| g_off rfl rfl rfl rfl <| g_off rfl rfl rfl rfl <| g_off rfl rfl rfl rfl <| g_off rfl rfl rfl rfl <| g_off rfl rfl rfl rfl <| g_off rfl rfl rfl rfl <| g_off rfl rfl rfl rfl <| g_off rfl rfl rfl rfl <| pkt (.bool _) rfl rfl <| jt <| c_true rfl <| csr <| mvp rfl ?_
 refine nlc rfl <| fad rfl uy137 rfl ty4.sz <| stp 0 2 _ (p1 (.bool true)) rfl rfl rfl rfl rfl rfl ty4 ⟨trivial, ?_⟩
 refine jsr <| agb rfl <| jt <| c_ret ?_
 exact j_end (own0 := [[(b, .cells (cat [pt s, p1 (.int .i64 ((p : Nat) : Int)), p1 (.bool true)]) 137)]]) (ro0 := []) (.inl rfl) rfl (hr1 Tryz.results103 (rvt (v := (.bool _)) rfl)) [0] [] [_] [] [] _ rfl rfl (by kernel_rfl) rfl impl_nil (⟨rfl, rfl, rfl⟩)
theorem begin_ct (b : Nat) (s : Str) (p : Nat) (hs : s.length ≤ 140737488351232) (hp : p ≤ s.length) : Ct Tryz.prog 103 [.pointer (some ⟨b, 0, none⟩)] [[(b, .cells (cat [pt s, p1 (.int .i64 ((p : Nat) : Int)), p1 (.bool false)]) 137)]] [] (fun v o r => (blk s p = true ∧ v = .bool true ∧ o = [[(b, .cells (cat [pt s, p1 (.int .i64 (((p + 1) : Nat) : Int)), p1 (.bool false)]) 137)]] ∧ r = []) ∨ (blk s p = false ∧ v = .bool false ∧ o = [[(b, .cells (cat [pt s, p1 (.int .i64 ((p : Nat) : Int)), p1 (.bool true)]) 137)]] ∧ r = [])) := by
 refine ct_enter Tryz.func103 rfl Tryz.ntmps103 (by kernel_rfl) rfl fun w0 => ?_
 refine csr <| agb rfl <| jt <| c_seq <| c_seq <| c_dr [_] [] [(0, 0), (1, 0), (2, 0), (3, 0), (4, 0), (5, 0), (6, 0), (7, 0), (8, 0), (9, 0), (10, 0), (11, 0), (12, 0), (13, 0), (14, 0), (15, 0), (16, 0), (17, 0), (18, 0), (19, 0), (20, 0), (21, 0), (22, 0), (23, 0), (24, 0), (25, 0), (26, 0), (27, 0)] follows (by kernel_rfl) calm_body (keepS [0] rfl) <| mvp rfl <| nlc rfl <| fad rfl uy137 rfl ty4.sz <| ldp 0 2 _ rfl rfl rfl rfl ty4 <| mvb rfl <| g_on rfl rfl rfl <| mvp rfl <| g_on rfl rfl rfl <| nlc rfl <| g_on rfl rfl rfl <| fad rfl uy137 rfl ty3.sz <| g_on rfl rfl rfl <| ldp 0 1 _ rfl rfl rfl rfl ty3 <| g_on rfl rfl rfl <| mvp rfl <| g_on rfl rfl rfl <| nlc rfl <| g_on rfl rfl rfl <| fad rfl uy137 rfl ty9.sz <| g_on rfl rfl rfl <| ldp 0 0 _ rfl rfl rfl rfl ty9 <| g_on rfl rfl rfl <| lenT (s := s) rfl uy9 <| g_on rfl rfl rfl <| cmp _ rfl rfl rfl <| pkf (.bool _) rfl rfl <| mvb rfl <| jsplit 19 rfl (fun h1 => ?_) (fun h1 => ?_)
 ·replace h1 := of_decide_eq_true h1
  refine g_off rfl rfl rfl rfl <| g_off rfl rfl rfl rfl <| g_off rfl rfl rfl rfl <| g_off rfl rfl rfl rfl <| g_off rfl rfl rfl rfl <| g_off rfl rfl rfl rfl <| g_off rfl rfl rfl rfl <| g_off rfl rfl rfl rfl <| g_off rfl rfl rfl rfl <| g_off rfl rfl rfl rfl <| pkt (.bool _) rfl rfl <| jt <| c_true rfl <| csr <| mvp rfl <| nlc rfl <| fad rfl uy137 rfl ty4.sz <| stp 0 2 _ (p1 (.bool true)) rfl rfl rfl rfl rfl rfl ty4 ⟨trivial, ?_⟩
  refine jsr <| agb rfl <| jt <| c_ret ?_
  exact j_end (own0 := [[(b, .cells (cat [pt s, p1 (.int .i64 ((p : Nat) : Int)), p1 (.bool false)]) 137)]]) (ro0 := []) (.inl rfl) rfl (hr1 Tryz.results103 (rvt (v := (.bool _)) rfl)) [0] [] [_] [] [] _ rfl rfl (by kernel_rfl) rfl impl_nil (.inr ⟨blk_out (by omega), rfl, rfl, rfl⟩)
 ·replace h1 := of_decide_eq_false h1
  refine g_on rfl rfl rfl <| mvp rfl <| g_on rfl rfl rfl <| nlc rfl <| g_on rfl rfl rfl <| fad rfl uy137 rfl ty9.sz <| g_on rfl rfl rfl <| ldp 0 0 _ rfl rfl rfl rfl ty9 <| g_on rfl rfl rfl <| mvp rfl <| g_on rfl rfl rfl <| nlc rfl <| g_on rfl rfl rfl <| fad rfl uy137 rfl ty3.sz <| g_on rfl rfl rfl <| ldp 0 1 _ rfl rfl rfl rfl ty3 <| g_on rfl rfl rfl <| idxT (s := s) p rfl rfl uy9 rfl (by first | omega | (simp; done) | (simp; omega) | (simp at *; omega)) <| g_on rfl rfl rfl <| equ8 (a := (List.getD s p 0)) (b := (32 : UInt8)) _ rfl rfl rfl <| pkf (.bool _) rfl rfl <| jt <| c_cond rfl (fun h2 => ?_) (fun h2 => ?_)
  ·replace h2 := ndt h2
   refine csr <| mvp rfl <| nlc rfl <| fad rfl uy137 rfl ty4.sz <| stp 0 2 _ (p1 (.bool true)) rfl rfl rfl rfl rfl rfl ty4 ⟨trivial, ?_⟩
   refine jsr <| agb rfl <| jt <| c_ret ?_
   exact j_end (own0 := [[(b, .cells (cat [pt s, p1 (.int .i64 ((p : Nat) : Int)), p1 (.bool false)]) 137)]]) (ro0 := []) (.inl rfl) rfl (hr1 Tryz.results103 (rvt (v := (.bool _)) rfl)) [0] [] [_] [] [] _ rfl rfl (by kernel_rfl) rfl impl_nil (.inr ⟨blk_no (by assumption), rfl, rfl, rfl⟩)
  ·replace h2 := ndf h2
   refine c_skip <| e_then <| csr <| mvp rfl <| nlc rfl <| fad rfl uy137 rfl ty3.sz <| ldp 0 1 _ rfl rfl rfl rfl ty3 <| addi rfl rfl rfl (by omega) <| nlc rfl <| fad rfl uy137 rfl ty3.sz <| stp 0 1 _ (p1 (.int .i64 (((p : Nat) : Int) + 1))) rfl rfl rfl rfl rfl rfl ty3 ⟨trivial, ?_⟩
   refine jsr <| agb rfl <| jt <| c_ret ?_
   exact j_end (own0 := [[(b, .cells (cat [pt s, p1 (.int .i64 ((p : Nat) : Int)), p1 (.bool false)]) 137)]]) (ro0 := []) (.inl rfl) rfl (hr1 Tryz.results103 (rvt (v := (.bool _)) rfl)) [0] [] [_] [] [] _ rfl rfl (by kernel_rfl) rfl impl_nil (.inl ⟨blk_yes (by omega) (by assumption), rfl, rfl, rfl⟩)
theorem word_rct (b : Nat) (s : Str) (p : Nat) (bad : Bool) (hs : s.length ≤ 140737488351232) (hp : p ≤ s.length) : Ct Tryz.prog 66 [.pointer (some ⟨b, 0, none⟩)] [] [[(b, .cells (cat [pt s, p1 (.int .i64 ((p : Nat) : Int)), p1 (.bool bad)]) 137)]] (fun v o r => v = strV (word s p) ∧ o = [] ∧ r = []) := by
 refine ct_enter Tryz.func66 rfl Tryz.ntmps66 (by kernel_rfl) rfl fun w0 => ?_
 refine csr <| ags rfl <| jt <| c_seq <| c_dr [_] [] [(0, 0), (1, 0), (2, 0), (3, 0), (4, 0), (5, 0), (6, 0), (7, 0), (8, 0), (9, 1), (10, 0), (11, 0), (12, 0), (13, 0), (14, 0), (15, 0), (16, 0)] follows (by kernel_rfl) calm_body (keepS [0] rfl) <| mvp rfl <| nlc rfl <| fad rfl uy137 rfl ty9.sz <| ldp 0 0 _ rfl rfl rfl rfl ty9 <| mvp rfl <| nlc rfl <| fad rfl uy137 rfl ty3.sz <| ldp 0 1 _ rfl rfl rfl rfl ty3 <| cutT (s := s) p s.length rfl uy9 ⟨_, rfl⟩ rfl (by omega) (by omega) (List.drop p s) (cut_hi _ _) <| cal (sCut_ct (List.drop p s) (by simp; omega)) [] [] [] rfl rfl rfl (by kernel_rfl) impl_nil rfl ?_; rintro _ _ _ ⟨ca1, cf1, rfl, rfl, rfl⟩; refine ⟨keepI [0] rfl, ?_⟩
 refine mv (.tuple _) rfl <| xtr (.string _) rfl rfl <| xtr (.string _) rfl rfl <| xtr (.bool _) rfl rfl <| ags rfl <| ags rfl <| agb rfl <| jsr <| mvs rfl <| ags rfl <| jt <| c_ret ?_
 exact j_z (own0 := []) (ro0 := [[(b, .cells (cat [pt s, p1 (.int .i64 ((p : Nat) : Int)), p1 (.bool bad)]) 137)]]) (.inl rfl) rfl (hr1 Tryz.results66 (rvt (v := (.string _)) rfl)) rfl (⟨rfl, rfl, rfl⟩)
theorem took_ct (b : Nat) (s : Str) (p n : Nat) (ok : Bool) (hs : p + n ≤ 140737488351232) : Ct Tryz.prog 105 [.pointer (some ⟨b, 0, none⟩), .int .i64 (n : Int), .bool ok] [[(b, .cells (cat [pt s, p1 (.int .i64 ((p : Nat) : Int)), p1 (.bool false)]) 137)]] [] (fun v o r => (ok = true ∧ v = .tuple #[] ∧ o = [[(b, .cells (cat [pt s, p1 (.int .i64 (((p + n) : Nat) : Int)), p1 (.bool false)]) 137)]] ∧ r = []) ∨ (ok = false ∧ v = .tuple #[] ∧ o = [[(b, .cells (cat [pt s, p1 (.int .i64 ((p : Nat) : Int)), p1 (.bool true)]) 137)]] ∧ r = [])) := by
 refine ct_enter Tryz.func105 rfl Tryz.ntmps105 (by kernel_rfl) rfl fun w0 => ?_
 refine c_seq <| csr <| mvb rfl <| not_ rfl <| jt <| c_cond rfl (fun h1 => ?_) (fun h1 => ?_)
 ·refine csr <| mvp rfl <| nlc rfl <| fad rfl uy137 rfl ty4.sz <| stp 0 2 _ (p1 (.bool true)) rfl rfl rfl rfl rfl rfl ty4 ⟨trivial, ?_⟩
  refine jt <| c_ret ?_
  exact j_end (own0 := [[(b, .cells (cat [pt s, p1 (.int .i64 ((p : Nat) : Int)), p1 (.bool false)]) 137)]]) (ro0 := []) (.inl rfl) rfl (hr0 Tryz.results105) [0] [] [_] [] [] _ rfl rfl (by kernel_rfl) rfl impl_nil (.inr ⟨by simpa using h1, rfl, rfl, rfl⟩)
 ·refine c_skip <| e_then <| c_reg <| mvp rfl <| nlc rfl <| fad rfl uy137 rfl ty3.sz <| ldp 0 1 _ rfl rfl rfl rfl ty3 <| mvi rfl <| addi rfl rfl rfl (by omega) <| nlc rfl <| fad rfl uy137 rfl ty3.sz <| stp 0 1 _ (p1 (.int .i64 (((p : Nat) : Int) + (n : Int)))) rfl rfl rfl rfl rfl rfl ty3 ⟨trivial, ?_⟩
  refine jn ?_
  exact j_end (own0 := [[(b, .cells (cat [pt s, p1 (.int .i64 ((p : Nat) : Int)), p1 (.bool false)]) 137)]]) (ro0 := []) (.inr rfl) rfl (hr0 Tryz.results105) [0] [] [_] [] [] _ rfl rfl (by kernel_rfl) rfl impl_nil (.inl ⟨by simpa using h1, rfl, rfl, rfl⟩)
end Go.Proofs.YtakbbpahfclgnaaGreatDoor
namespace Go.Proofs.YtakbbpahfclgnaaGreatDoor
open Go Go.Proofs Go.PW
open Go.PW.Enc (enc val)
theorem took_t (b : Nat) (s : Str) (p n : Nat) (hs : p + n ≤ 140737488351232) : Ct Tryz.prog 105 [.pointer (some ⟨b, 0, none⟩), .int .i64 (n : Int), .bool true] [[(b, .cells (cat [pt s, p1 (.int .i64 ((p : Nat) : Int)), p1 (.bool false)]) 137)]] [] (fun v o r => v = .tuple #[] ∧ o = [[(b, .cells (cat [pt s, p1 (.int .i64 (((p + n) : Nat) : Int)), p1 (.bool false)]) 137)]] ∧ r = []) := by
  refine (took_ct b s p n true hs).mono fun v o r h => ?_
  rcases h with h | h
  · exact h.2
  · cases h.1
theorem took_f (b : Nat) (s : Str) (p n : Nat) (hs : p + n ≤ 140737488351232) : Ct Tryz.prog 105 [.pointer (some ⟨b, 0, none⟩), .int .i64 (n : Int), .bool false] [[(b, .cells (cat [pt s, p1 (.int .i64 ((p : Nat) : Int)), p1 (.bool false)]) 137)]] [] (fun v o r => v = .tuple #[] ∧ o = [[(b, .cells (cat [pt s, p1 (.int .i64 ((p : Nat) : Int)), p1 (.bool true)]) 137)]] ∧ r = []) := by
  refine (took_ct b s p n false hs).mono fun v o r h => ?_
  rcases h with h | h
  · cases h.1
  · exact h.2
theorem number_bad (b : Nat) (s : Str) (p : Nat) (hs : s.length ≤ 140737488351232) (hp : p ≤ s.length) (l m : UInt64) : Ct Tryz.prog 70 [.pointer (some ⟨b, 0, none⟩), .int .u64 (l.toNat : Int), .int .u64 (m.toNat : Int)] [[(b, .cells (cat [pt s, p1 (.int .i64 ((p : Nat) : Int)), p1 (.bool true)]) 137)]] [] (fun v o r => ∃ n : UInt64, v = .int .u64 (n.toNat : Int) ∧ o = [[(b, .cells (cat [pt s, p1 (.int .i64 ((p : Nat) : Int)), p1 (.bool true)]) 137)]] ∧ r = []) := by
 refine ct_enter Tryz.func70 rfl Tryz.ntmps70 (by kernel_rfl) rfl fun w0 => ?_
 refine csr <| agi rfl <| jt <| c_seq <| csr <| mvp rfl <| cal (begin_bad b s p (by omega) (by omega)) [0] [] [] rfl rfl rfl (by kernel_rfl) impl_nil rfl ?_; rintro _ _ _ ⟨rfl, rfl, rfl⟩; refine ⟨trivial, ?_⟩
 refine not_ rfl <| jt <| c_true rfl <| csr <| agi rfl <| jt <| c_ret ?_
 exact j_end (own0 := [[(b, .cells (cat [pt s, p1 (.int .i64 ((p : Nat) : Int)), p1 (.bool true)]) 137)]]) (ro0 := []) (.inl rfl) rfl (hr1 Tryz.results70 (rvt (v := (.int _ _)) rfl)) [0] [] [_] [] [] _ rfl rfl (by kernel_rfl) rfl impl_nil (⟨(0 : UInt64), rfl, rfl, rfl⟩)
theorem number_ct (b : Nat) (s : Str) (p : Nat) (hs : s.length ≤ 140737488351232) (hp : p ≤ s.length) (l m : UInt64) (eu : TypeId) (ev : Value) (ru : TypeId) (rv : Value) : Ct Tryz.prog 70 [.pointer (some ⟨b, 0, none⟩), .int .u64 (l.toNat : Int), .int .u64 (m.toNat : Int)] [[(b, .cells (cat [pt s, p1 (.int .i64 ((p : Nat) : Int)), p1 (.bool false)]) 137)]] [tPow10 9, tIf 7 eu ev, tIf 8 ru rv] (fun v o r => (∃ (n : UInt64) (q : Nat), numR s l.toNat m.toNat p = .inr (n.toNat, q) ∧ v = .int .u64 (n.toNat : Int) ∧ o = [[(b, .cells (cat [pt s, p1 (.int .i64 ((q : Nat) : Int)), p1 (.bool false)]) 137)]] ∧ r = []) ∨ (∃ (n : UInt64) (q : Nat), numR s l.toNat m.toNat p = .inl q ∧ q ≤ s.length ∧ v = .int .u64 (n.toNat : Int) ∧ o = [[(b, .cells (cat [pt s, p1 (.int .i64 ((q : Nat) : Int)), p1 (.bool true)]) 137)]] ∧ r = [])) := by
 have HWL := wlen_le s (p + 1)
 have HWW := word_length s (p + 1)
 refine ct_enter Tryz.func70 rfl Tryz.ntmps70 (by kernel_rfl) rfl fun w0 => ?_
 refine csr <| agi rfl <| jt <| c_seq <| csr <| mvp rfl <| cal (begin_ct b s p (by omega) (by omega)) [0] [] [] rfl rfl rfl (by kernel_rfl) impl_nil rfl ?_; rintro _ _ _ (⟨hbl1, rfl, rfl, rfl⟩ | ⟨hbl1, rfl, rfl, rfl⟩)
 ·have hpl1 := blk_lt hbl1; refine ⟨trivial, ?_⟩
  refine not_ rfl <| jt <| c_false rfl <| c_skip <| e_then <| csr <| mvp rfl <| cal (word_rct b s (p + 1) false (by omega) (by omega)) [] [0] [_] rfl rfl rfl (by kernel_rfl) (impl_cons (impl_at 3 rfl) impl_nil) rfl ?_; rintro _ _ _ ⟨rfl, rfl, rfl⟩; refine ⟨trivial, ?_⟩
  refine ags rfl <| jsr <| mvs rfl <| cal (sParseUint_ct (word s (p + 1)) (by omega) eu ev ru rv) [] [0] [_] rfl rfl rfl (by kernel_rfl) (impl_cons (impl_at 1 rfl) (impl_cons (impl_at 2 rfl) impl_nil)) rfl ?_; rintro _ _ _ (⟨sn2, hs2, rfl, rfl, rfl⟩ | ⟨hs2, sn2, su2, sx2, rfl, rfl, rfl⟩)
  ·refine ⟨trivial, ?_⟩
   refine mv (.tuple _) rfl <| xtr (.int _ _) rfl rfl <| xtr .nilIface rfl rfl <| agi rfl <| asg .nilIface rfl <| jsr <| mvp rfl <| mvs rfl <| lenT (s := (word s (p + 1))) rfl uy9 <| mv .nilIface rfl <| eqnn true rfl uy24 rfl <| mvb rfl <| g_on rfl rfl rfl <| mvi rfl <| g_on rfl rfl rfl <| cal (sFormatUint10_ct sn2) [] [0] [_] rfl rfl rfl (by kernel_rfl) (impl_cons (impl_at 0 rfl) impl_nil) rfl ?_; rintro _ _ _ ⟨rfl, rfl, rfl⟩; refine ⟨trivial, ?_⟩
   refine g_on rfl rfl rfl <| mvs rfl <| g_on rfl rfl rfl <| scmp (a := (fmtN 10 sn2.toNat)) (b := (word s (p + 1))) _ rfl rfl uy9 rfl <| pkt (.bool _) rfl rfl <| mvb rfl <| jsplit 31 rfl (fun h1 => ?_) (fun h1 => ?_)
   ·replace h1 := of_decide_eq_true h1
    refine g_on rfl rfl rfl <| mvi rfl <| g_on rfl rfl rfl <| mvi rfl <| g_on rfl rfl rfl <| cmp _ rfl rfl rfl <| pkt (.bool _) rfl rfl <| mvb rfl <| jsplit 36 rfl (fun h2 => ?_) (fun h2 => ?_)
    ·replace h2 := of_decide_eq_true h2
     refine g_on rfl rfl rfl <| mvi rfl <| g_on rfl rfl rfl <| mvi rfl <| g_on rfl rfl rfl <| cmp _ rfl rfl rfl <| pkt (.bool _) rfl rfl <| cal (took_ct b s (p + 1) ((word s (p + 1)).length) (decide ((sn2.toNat : Int) ≤ (m.toNat : Int))) (by omega)) [0] [] [] rfl rfl rfl (by kernel_rfl) impl_nil rfl ?_; rintro _ _ _ (⟨htk3, rfl, rfl, rfl⟩ | ⟨htk3, rfl, rfl, rfl⟩)
     ·replace htk3 := of_decide_eq_true htk3; refine ⟨trivial, ?_⟩
      refine jsr <| mvi rfl <| agi rfl <| jt <| c_ret ?_
      exact j_end (own0 := [[(b, .cells (cat [pt s, p1 (.int .i64 ((p : Nat) : Int)), p1 (.bool false)]) 137)]]) (ro0 := [tPow10 9, tIf 7 eu ev, tIf 8 ru rv]) (.inl rfl) rfl (hr1 Tryz.results70 (rvt (v := (.int _ _)) rfl)) [0] [] [_] [] [] _ rfl rfl (by kernel_rfl) rfl impl_nil (.inl ⟨_, _, by rw [word_length]; exact numR_ok (by assumption) (by rw [← (show fmtN 10 _ = word s (p + 1) by assumption)]; exact pnum_fmt (by omega) (by omega) (UInt64.toNat_lt _)) (by omega), rfl, rfl, rfl⟩)
     ·replace htk3 := of_decide_eq_false htk3; refine ⟨trivial, ?_⟩
      refine jsr <| mvi rfl <| agi rfl <| jt <| c_ret ?_
      exact j_end (own0 := [[(b, .cells (cat [pt s, p1 (.int .i64 ((p : Nat) : Int)), p1 (.bool false)]) 137)]]) (ro0 := [tPow10 9, tIf 7 eu ev, tIf 8 ru rv]) (.inl rfl) rfl (hr1 Tryz.results70 (rvt (v := (.int _ _)) rfl)) [0] [] [_] [] [] _ rfl rfl (by kernel_rfl) rfl impl_nil (.inr ⟨_, _, numR_bad (by assumption) (fun k hk hb => by have h8 := m.toNat_lt; have e := pnum_some hk; first | exact absurd e (hs2 k (by omega)) | (have h9 := hs2 k (by omega) e; rw [← h9] at e; first | (exact absurd e.symm (by assumption)) | omega)), by omega, rfl, rfl, rfl⟩)
    ·replace h2 := of_decide_eq_false h2
     refine g_off rfl rfl rfl rfl <| g_off rfl rfl rfl rfl <| g_off rfl rfl rfl rfl <| pkf (.bool _) rfl rfl <| cal (took_f b s (p + 1) ((word s (p + 1)).length) (by omega)) [0] [] [] rfl rfl rfl (by kernel_rfl) impl_nil rfl ?_; rintro _ _ _ ⟨rfl, rfl, rfl⟩; refine ⟨trivial, ?_⟩
     refine jsr <| mvi rfl <| agi rfl <| jt <| c_ret ?_
     exact j_end (own0 := [[(b, .cells (cat [pt s, p1 (.int .i64 ((p : Nat) : Int)), p1 (.bool false)]) 137)]]) (ro0 := [tPow10 9, tIf 7 eu ev, tIf 8 ru rv]) (.inl rfl) rfl (hr1 Tryz.results70 (rvt (v := (.int _ _)) rfl)) [0] [] [_] [] [] _ rfl rfl (by kernel_rfl) rfl impl_nil (.inr ⟨_, _, numR_bad (by assumption) (fun k hk hb => by have h8 := m.toNat_lt; have e := pnum_some hk; first | exact absurd e (hs2 k (by omega)) | (have h9 := hs2 k (by omega) e; rw [← h9] at e; first | (exact absurd e.symm (by assumption)) | omega)), by omega, rfl, rfl, rfl⟩)
   ·replace h1 := of_decide_eq_false h1
    refine g_off rfl rfl rfl rfl <| g_off rfl rfl rfl rfl <| g_off rfl rfl rfl rfl <| pkf (.bool _) rfl rfl <| mvb rfl <| g_off rfl rfl rfl rfl <| g_off rfl rfl rfl rfl <| g_off rfl rfl rfl rfl <| pkf (.bool _) rfl rfl <| cal (took_f b s (p + 1) ((word s (p + 1)).length) (by omega)) [0] [] [] rfl rfl rfl (by kernel_rfl) impl_nil rfl ?_; rintro _ _ _ ⟨rfl, rfl, rfl⟩; refine ⟨trivial, ?_⟩
    refine jsr <| mvi rfl <| agi rfl <| jt <| c_ret ?_
    exact j_end (own0 := [[(b, .cells (cat [pt s, p1 (.int .i64 ((p : Nat) : Int)), p1 (.bool false)]) 137)]]) (ro0 := [tPow10 9, tIf 7 eu ev, tIf 8 ru rv]) (.inl rfl) rfl (hr1 Tryz.results70 (rvt (v := (.int _ _)) rfl)) [0] [] [_] [] [] _ rfl rfl (by kernel_rfl) rfl impl_nil (.inr ⟨_, _, numR_bad (by assumption) (fun k hk hb => by have h8 := m.toNat_lt; have e := pnum_some hk; first | exact absurd e (hs2 k (by omega)) | (have h9 := hs2 k (by omega) e; rw [← h9] at e; first | (exact absurd e.symm (by assumption)) | omega)), by omega, rfl, rfl, rfl⟩)
  ·refine ⟨trivial, ?_⟩
   refine mv (.tuple _) rfl <| xtr (.int _ _) rfl rfl <| xtr (.iface _ _) rfl rfl <| agi rfl <| asg (.iface _ _) rfl <| jsr <| mvp rfl <| mvs rfl <| lenT (s := (word s (p + 1))) rfl uy9 <| mv (.iface _ _) rfl <| eqin false rfl rfl uy24 rfl <| mvb rfl <| g_off rfl rfl rfl rfl <| g_off rfl rfl rfl rfl <| g_off rfl rfl rfl rfl <| g_off rfl rfl rfl rfl <| pkf (.bool _) rfl rfl <| mvb rfl <| g_off rfl rfl rfl rfl <| g_off rfl rfl rfl rfl <| g_off rfl rfl rfl rfl <| pkf (.bool _) rfl rfl <| mvb rfl <| g_off rfl rfl rfl rfl <| g_off rfl rfl rfl rfl <| g_off rfl rfl rfl rfl <| pkf (.bool _) rfl rfl <| cal (took_f b s (p + 1) ((word s (p + 1)).length) (by omega)) [0] [] [] rfl rfl rfl (by kernel_rfl) impl_nil rfl ?_; rintro _ _ _ ⟨rfl, rfl, rfl⟩; refine ⟨trivial, ?_⟩
   refine jsr <| mvi rfl <| agi rfl <| jt <| c_ret ?_
   exact j_end (own0 := [[(b, .cells (cat [pt s, p1 (.int .i64 ((p : Nat) : Int)), p1 (.bool false)]) 137)]]) (ro0 := [tPow10 9, tIf 7 eu ev, tIf 8 ru rv]) (.inl rfl) rfl (hr1 Tryz.results70 (rvt (v := (.int _ _)) rfl)) [0] [] [_] [] [] _ rfl rfl (by kernel_rfl) rfl impl_nil (.inr ⟨_, _, numR_bad (by assumption) (fun k hk hb => by have h8 := m.toNat_lt; have e := pnum_some hk; first | exact absurd e (hs2 k (by omega)) | (have h9 := hs2 k (by omega) e; rw [← h9] at e; first | (exact absurd e.symm (by assumption)) | omega)), by omega, rfl, rfl, rfl⟩)
 ·refine ⟨trivial, ?_⟩
  refine not_ rfl <| jt <| c_true rfl <| csr <| agi rfl <| jt <| c_ret ?_
  exact j_end (own0 := [[(b, .cells (cat [pt s, p1 (.int .i64 ((p : Nat) : Int)), p1 (.bool false)]) 137)]]) (ro0 := [tPow10 9, tIf 7 eu ev, tIf 8 ru rv]) (.inl rfl) rfl (hr1 Tryz.results70 (rvt (v := (.int _ _)) rfl)) [0] [] [_] [] [] _ rfl rfl (by kernel_rfl) rfl impl_nil (.inr ⟨(0 : UInt64), _, numR_no (by assumption), by omega, rfl, rfl, rfl⟩)
end Go.Proofs.YtakbbpahfclgnaaGreatDoor
namespace Go.Proofs.YtakbbpahfclgnaaGreatDoor
open Go Go.Proofs Go.PW
open Go.PW.Enc (enc val)
theorem bytes_bad (b : Nat) (s : Str) (p : Nat) (hs : s.length ≤ 140737488351232) (hp : p ≤ s.length) (n : Nat) (hn0 : 0 < n) (hn : n ≤ 32) : Ct Tryz.prog 71 [.pointer (some ⟨b, 0, none⟩), .int .i64 (n : Int)] [[(b, .cells (cat [pt s, p1 (.int .i64 ((p : Nat) : Int)), p1 (.bool true)]) 137)]] [] (fun v o r => ∃ o' : Ow, ∃ xs : Str, o'.ok xs ∧ xs.length = n ∧ v = .slice o'.adr n o'.cap ∧ o = [[(b, .cells (cat [pt s, p1 (.int .i64 ((p : Nat) : Int)), p1 (.bool true)]) 137)], o'.seg xs 5] ∧ r = []) := by
 refine ct_enter Tryz.func71 rfl Tryz.ntmps71 (by kernel_rfl) rfl fun w0 => ?_
 refine csr <| agl rfl <| jsr <| mvi rfl <| mks (0 : UInt8) n n rfl rfl rfl rfl (Nat.le_refl _) uy93 ty5.sz by5 zw5 (by omega) rfl fun b11 => ⟨trivial, ?_⟩
 refine agl rfl <| jt <| c_seq <| csr <| mvp rfl <| cal (begin_bad b s p (by omega) (by omega)) [0] [1] [_] rfl rfl rfl (by kernel_rfl) impl_nil rfl ?_; rintro _ _ _ ⟨rfl, rfl, rfl⟩; refine ⟨trivial, ?_⟩
 refine not_ rfl <| jt <| c_true rfl <| csr <| mvl rfl <| agl rfl <| jt <| c_ret ?_
 exact j_end (own0 := [[(b, .cells (cat [pt s, p1 (.int .i64 ((p : Nat) : Int)), p1 (.bool true)]) 137)]]) (ro0 := []) (.inl rfl) rfl (hr1 Tryz.results71 (rvt (v := (.slice _ _ _)) rfl)) [1, 0] [] [_, _] [] [] _ rfl rfl (by kernel_rfl) rfl impl_nil (⟨(⟨false, b11, n, encs (List.replicate (n - n) (0 : UInt8))⟩ : Ow), _, mks_ok (0 : UInt8) b11 n n (Nat.le_refl _), by simp, rfl, rfl, rfl⟩)
theorem bytes_ct (b : Nat) (s : Str) (p : Nat) (hs : s.length ≤ 140737488351232) (hp : p ≤ s.length) (n : Nat) (hn0 : 0 < n) (hn : n ≤ 32) : Ct Tryz.prog 71 [.pointer (some ⟨b, 0, none⟩), .int .i64 (n : Int)] [[(b, .cells (cat [pt s, p1 (.int .i64 ((p : Nat) : Int)), p1 (.bool false)]) 137)]] [] (fun v o r => (∃ (o' : Ow) (q : Nat), hexR s n p = .inr (word s (p + 1), q) ∧ o'.ok (hexb (word s (p + 1)) n) ∧ v = .slice o'.adr n o'.cap ∧ o = [[(b, .cells (cat [pt s, p1 (.int .i64 ((q : Nat) : Int)), p1 (.bool false)]) 137)], o'.seg (hexb (word s (p + 1)) n) 5] ∧ r = []) ∨ (∃ (o' : Ow) (xs : Str) (q : Nat), hexR s n p = .inl q ∧ q ≤ s.length ∧ o'.ok xs ∧ xs.length = n ∧ v = .slice o'.adr n o'.cap ∧ o = [[(b, .cells (cat [pt s, p1 (.int .i64 ((q : Nat) : Int)), p1 (.bool true)]) 137)], o'.seg xs 5] ∧ r = [])) := by
 have HWL := wlen_le s (p + 1)
 have HWW := word_length s (p + 1)
 refine ct_enter Tryz.func71 rfl Tryz.ntmps71 (by kernel_rfl) rfl fun w0 => ?_
 refine csr <| agl rfl <| jsr <| mvi rfl <| mks (0 : UInt8) n n rfl rfl rfl rfl (Nat.le_refl _) uy93 ty5.sz by5 zw5 (by omega) rfl fun b11 => ⟨trivial, ?_⟩
 refine agl rfl <| jt <| c_seq <| csr <| mvp rfl <| cal (begin_ct b s p (by omega) (by omega)) [0] [1] [_] rfl rfl rfl (by kernel_rfl) impl_nil rfl ?_; rintro _ _ _ (⟨hbl1, rfl, rfl, rfl⟩ | ⟨hbl1, rfl, rfl, rfl⟩)
 ·have hpl1 := blk_lt hbl1; refine ⟨trivial, ?_⟩
  refine not_ rfl <| jt <| c_false rfl <| c_skip <| e_then <| csr <| mvp rfl <| cal (word_rct b s (p + 1) false (by omega) (by omega)) [] [0, 1] [_, _] rfl rfl rfl (by kernel_rfl) (impl_cons (impl_at 1 rfl) impl_nil) rfl ?_; rintro _ _ _ ⟨rfl, rfl, rfl⟩; refine ⟨trivial, ?_⟩
  refine ags rfl <| jsr <| mvs rfl <| lenT (s := (word s (p + 1))) rfl uy9 <| mvi rfl <| muli rfl rfl rfl (by omega) <| cmp _ rfl rfl rfl <| agb rfl <| jt <| c_seq <| csr <| agi rfl <| jt <| c_block <| c_loop (σ := Nat × Bool × Str) (fun (i, rt, ys) => i ≤ (word s (p + 1)).length ∧ ys.length = n ∧ (rt = true → (word s (p + 1)).length = 2 * n ∧ ys = hrow (word s (p + 1)) n i ∧ ∀ j, j < i → hexv (List.getD (word s (p + 1)) j 0) < 16) ∧ (rt = false → ¬((word s (p + 1)).length = 2 * n ∧ hexok (word s (p + 1)) = true))) (fun (i, rt, ys) => (word s (p + 1)).length - i) (fun (i, rt, ys) => [(8, .int .i64 (i : Int)), (7, .bool rt)]) (fun (i, rt, ys) => [(⟨false, b11, n, encs (List.replicate (n - n) (0 : UInt8))⟩ : Ow).seg ys 5, [(b, .cells (cat [pt s, p1 (.int .i64 (((p + 1) : Nat) : Int)), p1 (.bool false)]) 137)]]) (fun (i, rt, ys) => []) [7, 8, 9, 23, 24, 25, 26, 27, 28, 29, 30, 31, 32, 33, 34, 35, 36, 37, 38, 39, 40, 41, 42, 43, 44, 45, 46, 47, 48, 49, 50] (0, decide (((word s (p + 1)).length : Int) = 2 * (n : Int)), List.replicate n (0 : UInt8)) (⟨by omega, by simp, fun h => ⟨by have := of_decide_eq_true h; omega, (hrow_zero _ _).symm, fun j hj => by omega⟩, fun h hh => by have := of_decide_eq_false h; omega⟩) ⟨rfl, rfl, trivial⟩ rfl rfl ?_
  rintro ⟨i, rt, ys⟩ g1 hI1
  try dsimp only at hI1 ⊢
  have hyl := hI1.2.1
  have hyo : Ow.ok (⟨false, b11, n, encs (List.replicate (n - n) (0 : UInt8))⟩ : Ow) ys := hrow_ok hyl
  refine c_seq <| csr <| mvb rfl <| mvb rfl <| jsplit 24 rfl (fun h1 => ?_) (fun h1 => ?_)
  ·refine g_on rfl rfl rfl <| mvi rfl <| g_on rfl rfl rfl <| mvs rfl <| g_on rfl rfl rfl <| lenT (s := (word s (p + 1))) rfl uy9 <| g_on rfl rfl rfl <| cmp _ rfl rfl rfl <| pkt (.bool _) rfl rfl <| jt <| c_cond rfl (fun h2 => ?_) (fun h2 => ?_)
   ·replace h2 := of_decide_eq_true h2
    refine c_skip <| e_then <| c_seq <| c_block <| csr <| mvs rfl <| mvi rfl <| idxT (s := (word s (p + 1))) i rfl rfl uy9 rfl (by omega) <| cal (sIndexByte_ct hexL (List.getD (word s (p + 1)) i 0)) [] [0, 1] [_, _] rfl rfl rfl (by kernel_rfl) impl_nil rfl ?_; rintro _ _ _ ⟨rfl, rfl, rfl⟩; refine ⟨trivial, ?_⟩
    refine agi rfl <| jsr <| mvi rfl <| cmp _ rfl rfl rfl <| agb rfl <| jt ?_
    have HIN := (hI1.2.2.1 (by assumption)).1
    refine c_reg <| mvl rfl <| mvi rfl <| quon (a := i) (b := 2) rfl rfl (by decide) (by omega) <| mvl rfl <| mvi rfl <| quon (a := i) (b := 2) rfl rfl (by decide) (by omega) <| ixs (((⟨false, b11, n, encs (List.replicate (n - n) (0 : UInt8))⟩ : Ow)).vs) ys (i / 2) (Ow.vs_ok hyo) rfl hyl.symm rfl uy93 ty5.sz rfl (by have := (hI1.2.2.1 (by assumption)).1; omega) <| ldsoG 0 (List.getD ys (i / 2) 0) hyo rfl rfl rfl rfl (getD_some (by have := (hI1.2.2.1 (by assumption)).1; omega)) ty5 <| shlRU8 (a := (List.getD ys (i / 2) 0)) 4 rfl rfl rfl <| mvi rfl <| cvZU8 (n := (idxB hexL (List.getD (word s (p + 1)) i 0))) rfl uy3 uy5 <| orU8 (a := (shlU8 (List.getD ys (i / 2) 0) 4)) (b := (UInt8.ofInt (idxB hexL (List.getD (word s (p + 1)) i 0)))) rfl rfl <| ixs (((⟨false, b11, n, encs (List.replicate (n - n) (0 : UInt8))⟩ : Ow)).vs) ys (i / 2) (Ow.vs_ok hyo) rfl hyl.symm rfl uy93 ty5.sz rfl (by have := (hI1.2.2.1 (by assumption)).1; omega) <| sto 0 (i / 2) ((shlU8 (List.getD ys (i / 2) 0) 4) ||| (UInt8.ofInt (idxB hexL (List.getD (word s (p + 1)) i 0)))) hyo rfl rfl rfl rfl rfl (by omega) ty5 ⟨trivial, ?_⟩
    refine jn <| e_in <| e_then <| c_reg <| mvi rfl <| addi rfl rfl rfl (by omega) <| agi rfl <| jn ?_
    exact e_loop (i + 1, decide (0 ≤ idxB hexL (List.getD (word s (p + 1)) i 0)), (ys.set (i / 2) ((shlU8 (List.getD ys (i / 2) 0) 4) ||| (UInt8.ofInt (idxB hexL (List.getD (word s (p + 1)) i 0)))))) (hrow_go hI1 (by assumption) (by omega)) (by show (word s (p + 1)).length - (i + 1) < (word s (p + 1)).length - i; omega) (⟨rfl, rfl, trivial⟩) rfl rfl rfl
   ·replace h2 := of_decide_eq_false h2
    refine c_exit rfl <| e_then <| c_seq ?_
    obtain rfl : rt = true := by assumption
    refine c_reg <| mvp rfl <| mvs rfl <| lenT (s := (word s (p + 1))) rfl uy9 <| mvb rfl <| cal (took_t b s (p + 1) ((word s (p + 1)).length) (by omega)) [1] [0] [_] rfl rfl rfl (by kernel_rfl) impl_nil rfl ?_; rintro _ _ _ ⟨rfl, rfl, rfl⟩; refine ⟨trivial, ?_⟩
    refine jsr <| mvl rfl <| agl rfl <| jt <| c_ret ?_
    have hye : ys = hexb (word s (p + 1)) n := by rw [(hI1.2.2.1 rfl).2.1]; unfold hexb; rw [show i = 2 * n by have := (hI1.2.2.1 rfl).1; omega]
    have hyok : Ow.ok (⟨false, b11, n, encs (List.replicate (n - n) (0 : UInt8))⟩ : Ow) (hexb (word s (p + 1)) n) := by rw [← hye]; exact hyo
    subst hye
    exact j_end (own0 := [[(b, .cells (cat [pt s, p1 (.int .i64 ((p : Nat) : Int)), p1 (.bool false)]) 137)]]) (ro0 := []) (.inl rfl) rfl (hr1 Tryz.results71 (rvt (v := (.slice _ _ _)) rfl)) [1, 0] [] [_, _] [] [] _ rfl rfl (by kernel_rfl) rfl impl_nil (.inl ⟨(⟨false, b11, n, encs (List.replicate (n - n) (0 : UInt8))⟩ : Ow), _, by rw [word_length]; exact hexR_ok (by assumption) (by rw [← word_length]; exact (hI1.2.2.1 rfl).1) (hexok_of (fun j hj => (hI1.2.2.1 rfl).2.2 j (by omega))), hyok, rfl, rfl, rfl⟩)
  ·refine g_off rfl rfl rfl rfl <| g_off rfl rfl rfl rfl <| g_off rfl rfl rfl rfl <| g_off rfl rfl rfl rfl <| pkf (.bool _) rfl rfl <| jt <| c_false rfl <| c_exit rfl <| e_then <| c_seq ?_
   obtain rfl : rt = false := by assumption
   refine c_reg <| mvp rfl <| mvs rfl <| lenT (s := (word s (p + 1))) rfl uy9 <| mvb rfl <| cal (took_f b s (p + 1) ((word s (p + 1)).length) (by omega)) [1] [0] [_] rfl rfl rfl (by kernel_rfl) impl_nil rfl ?_; rintro _ _ _ ⟨rfl, rfl, rfl⟩; refine ⟨trivial, ?_⟩
   refine jsr <| mvl rfl <| agl rfl <| jt <| c_ret ?_
   exact j_end (own0 := [[(b, .cells (cat [pt s, p1 (.int .i64 ((p : Nat) : Int)), p1 (.bool false)]) 137)]]) (ro0 := []) (.inl rfl) rfl (hr1 Tryz.results71 (rvt (v := (.slice _ _ _)) rfl)) [1, 0] [] [_, _] [] [] _ rfl rfl (by kernel_rfl) rfl impl_nil (.inr ⟨(⟨false, b11, n, encs (List.replicate (n - n) (0 : UInt8))⟩ : Ow), ys, _, hexR_bad (by assumption) (by rw [← word_length]; exact hI1.2.2.2 rfl), by omega, hyo, hyl, rfl, rfl, rfl⟩)
 ·refine ⟨trivial, ?_⟩
  refine not_ rfl <| jt <| c_true rfl <| csr <| mvl rfl <| agl rfl <| jt <| c_ret ?_
  exact j_end (own0 := [[(b, .cells (cat [pt s, p1 (.int .i64 ((p : Nat) : Int)), p1 (.bool false)]) 137)]]) (ro0 := []) (.inl rfl) rfl (hr1 Tryz.results71 (rvt (v := (.slice _ _ _)) rfl)) [1, 0] [] [_, _] [] [] _ rfl rfl (by kernel_rfl) rfl impl_nil (.inr ⟨(⟨false, b11, n, encs (List.replicate (n - n) (0 : UInt8))⟩ : Ow), _, _, hexR_no (by assumption), by omega, mks_ok (0 : UInt8) b11 n n (Nat.le_refl _), by simp, rfl, rfl, rfl⟩)
end Go.Proofs.YtakbbpahfclgnaaGreatDoor
namespace Go.PW
open Go
theorem hv_56 {w : Str} {i : Nat} {b : UInt64} (h : hval w (2 * i) < 16 ^ (2 * i)) (hb : b.toNat = hval w (2 * i)) (hi : i < 8) : b.toNat < 72057594037927936 := by
  have : 16 ^ (2 * i) ≤ 16 ^ 14 := Nat.pow_le_pow_right (by omega) (by omega)
  omega
theorem degB_of {w : Str} {b : UInt64} (hw : w.length = 2 * 8) (h : b.toNat = hval w 16) : (⟨b⟩ : F64) = degB w := by
  unfold degB
  have : b = UInt64.ofNat (hval w w.length) := by
    apply UInt64.toNat_inj.1
    have hb := b.toNat_lt
    rw [hw, UInt64.toNat_ofNat', h]
    rw [h] at hb
    rw [show 2 * 8 = 16 from rfl]
    omega
  rw [this]
theorem degR_next {s : Str} {M f : F64} {p q : Nat} (h : degR s M p = .inr (f, q)) : p < q ∧ q ≤ s.length := by
  unfold degR at h
  cases hh : hexR s 8 p with
  | inl k => rw [hh] at h; cases h
  | inr x =>
    obtain ⟨w, k⟩ := x
    rw [hh] at h
    simp only at h
    by_cases ho : oddB (degB w) M = true
    · rw [if_pos ho] at h; cases h
    · rw [if_neg ho] at h; cases h
      have := hexR_next hh
      exact ⟨this.1, this.2.1⟩
end Go.PW
