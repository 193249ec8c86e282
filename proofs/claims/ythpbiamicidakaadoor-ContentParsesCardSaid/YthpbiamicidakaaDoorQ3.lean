/- Laws of an engine and of the program's functions, gathered. No condition. -/
import Derived.Test.YthpbiamicidakaaDoorQ2
import Derived.LaidLaws
import Derived.LaidMore
import Derived.Handed
import Derived.Stop.Joined
namespace Go.PW
open Enc (enc val)
open Go
section
variable {cx : Cx} {md : Md} {ops : Array Oper} {Q : Exit → Act → World → Prop} {rest : List (Oper × Nat)} {kq : Nat} {base : Nat → Value} {L : List (Nat × Value)} {own ro : List Seg}
variable {q : Nat} {d : Nat} {ty : TypeId} {pos : String} {aft : Array Edge} {x y z : Operand} {xt yt : TypeId} {k k2 : IntKind}
theorem eqI {a b : Value} {op : BinOp} (e r : Bool) (hx : ev cx.n base L x = a) (hy : ev cx.n base L y = b) (hg : ∀ op w, (eqGuard op xt x y a b).run cx.P w = .ok () w) (hb1 : binOp .eql xt a b = (do pure (.bool (← Op.equalIn (9999 + 1) xt a b)))) (hb2 : binOp .neq xt a b = (do pure (.bool (!(← Op.equalIn (9999 + 1) xt a b)))))
    (hq : ∀ w, (Op.equalIn (9999 + 1) xt a b).run cx.P w = .ok e w) (hr : (match op with | .eql => some e | .neq => some !e | _ => none) = some r)
    (h : JG cx md ops Q rest base ((d, .bool r) :: L) own ro) : JG cx md ops Q ((⟨some d, .binOp op xt x y yt, ty, pos, aft, none⟩, q) :: rest) base L own ro :=
  qt (fun w _ => by
    cases op <;> dsimp only at hr <;> cases hr
    · simp only [execOp, hx, hy, hg, hb1, Sem.run_bind, Sem.run_pure, Result.andThen_ok, hq]
    · simp only [execOp, hx, hy, hg, hb2, Sem.run_bind, Sem.run_pure, Result.andThen_ok, hq]) h
theorem eqin {t : TypeId} {v : Value} {ms} {op : BinOp} (r : Bool) (hx : ev cx.n base L x = .iface t v) (hy : ev cx.n base L y = .nilIface) (hu : cx.P.underlying xt = some (.interface ms)) (hr : (match op with | .eql => some false | .neq => some !false | _ => none) = some r)
    (h : JG cx md ops Q rest base ((d, .bool r) :: L) own ro) : JG cx md ops Q ((⟨some d, .binOp op xt x y yt, ty, pos, aft, none⟩, q) :: rest) base L own ro :=
  eqI false r hx hy (fun op w => by unfold eqGuard; cases op <;> rfl) rfl rfl (fun w => (show ∀ n, (Op.equalIn (n + 1) xt (.iface t v) .nilIface).run cx.P w = .ok false w from fun n => by simp [Op.equalIn, run_underlying hu]) 9999) hr h
theorem eqnn {ms} {op : BinOp} (r : Bool) (hx : ev cx.n base L x = .nilIface) (hu : cx.P.underlying xt = some (.interface ms)) (hr : (match op with | .eql => some true | .neq => some !true | _ => none) = some r)
    (h : JG cx md ops Q rest base ((d, .bool r) :: L) own ro) : JG cx md ops Q ((⟨some d, .binOp op xt x (.const .nilIface) yt, ty, pos, aft, none⟩, q) :: rest) base L own ro :=
  eqI true r hx rfl (fun op w => by unfold eqGuard; cases op <;> simp [Sem.run_pure] <;> rfl) rfl rfl (fun w => (show ∀ n, (Op.equalIn (n + 1) xt .nilIface .nilIface).run cx.P w = .ok true w from fun n => by simp [Op.equalIn, run_underlying hu]) 9999) hr h
theorem eqii {t : TypeId} {a b : Int} {ms} {op : BinOp} (r : Bool) (hx : ev cx.n base L x = .iface t (.int k a)) (hy : ev cx.n base L y = .iface t (.int k b)) (hu : cx.P.underlying xt = some (.interface ms)) (ht : cx.P.underlying t = some (.int k)) (hc : (cx.P.info? t).map (·.comparable) = some true)
    (hr : (match op with | .eql => some (decide (a = b)) | .neq => some !(decide (a = b)) | _ => none) = some r)
    (h : JG cx md ops Q rest base ((d, .bool r) :: L) own ro) : JG cx md ops Q ((⟨some d, .binOp op xt x y yt, ty, pos, aft, none⟩, q) :: rest) base L own ro :=
  eqI (decide (a = b)) r hx hy (fun op w => by unfold eqGuard; cases op <;> rfl) rfl rfl (fun w => by
    cases hi : cx.P.info? t with
    | none => simp [hi] at hc
    | some i =>
      have hcc : i.comparable = true := by simpa [hi] using hc
      have hbeq : (a == b) = decide (a = b) := by rw [Bool.eq_iff_iff]; simp
      exact (show ∀ n, (Op.equalIn (n + 1 + 1) xt (.iface t (.int k a)) (.iface t (.int k b))).run cx.P w = .ok (decide (a = b)) w from fun n => by simp [Op.equalIn, run_underlying hu, run_underlying ht, typeInfo, hi, hcc, hbeq]) 9998) hr h
theorem cpy {α : Type} [Enc α] {E len cap : Nat} {a : Option Addr} {S T : TypeId} {yv : Value} (j : Nat) (o : Ow) (xs ys : List α) (hok : o.ok xs) (hx : ev cx.n base L x = .slice a len cap) (ha : a = o.adr) (hl : len = xs.length) (hs : own[j]? = some (o.seg xs E)) (hy : ev cx.n base L y = yv) (hg : Gives cx.P (own ++ ro) yv ys)
    (hle : ys.length ≤ xs.length) (hu : cx.P.underlying S = some (.slice E)) (hsz : (cx.P.info? E).map (·.size) = some (Enc.n α))
    (h : Keep md kq rest (own.set j (o.seg (ys ++ xs.drop ys.length) E)) ro ∧ JG cx md ops Q rest base ((d, .int .i64 (ys.length : Int)) :: L) (own.set j (o.seg (ys ++ xs.drop ys.length) E)) ro) :
    JG cx md ops Q ((⟨some d, .call ⟨.builtin .copy, #[x, y], #[S, T]⟩, ty, pos, aft, none⟩, kq + 1) :: rest) base L own ro :=
  nq (Post := fun L' own' ro' => L' = (d, .int .i64 (ys.length : Int)) :: L ∧ own' = own.set j (o.seg (ys ++ xs.drop ys.length) E) ∧ ro' = ro) rfl
    (fun w K hw hK => by
      subst ha; subst hl
      obtain ⟨h1, h2⟩ := hg w (fun s hs' => hw.src s hs')
      have hmin : Nat.min ys.length xs.length = ys.length := Nat.min_eq_left hle
      have hin := hw.has.o _ (List.mem_of_getElem? hs)
      unfold Oper.wp
      rw [A_eval_fun]
      cases hn : o.nl with
      | true =>
        obtain ⟨rfl, hcap⟩ := hok.nl hn
        have hys : ys = [] := List.eq_nil_of_length_eq_zero (by simpa using hle)
        subst hys
        have hadr : o.adr = none := by simp [Ow.adr, hn]
        rw [List.length_nil] at hx
        have hr : (Builtin.copy_ #[S, T] ty #[.slice o.adr 0 cap, yv]).run cx.P w = .ok (.int .i64 0) w := by
          rw [hadr]
          simp only [List.length_nil] at h1 h2
          simp [Builtin.copy_, run_underlying hu, h1, h2, run_sizeOf' hsz, goInt]
        have hr' : (execOp (ev cx.n base L) ⟨some d, .call ⟨.builtin .copy, #[x, y], #[S, T]⟩, ty, pos, aft, none⟩).run cx.P w = .ok (.value (.int .i64 0)) w := by
          simp [execOp, resolve, hx, hy, invoke, builtin, hr]
        simp only [hr', Oper.upon]
        rw [A_put]
        refine hK _ _ _ _ ⟨rfl, rfl, rfl⟩ ?_
        have e : own.set j (o.seg ([] ++ ([] : List α).drop ([] : List α).length) E) = own := by
          have : o.seg ([] ++ ([] : List α).drop ([] : List α).length) E = o.seg ([] : List α) E := by simp
          rw [this]
          obtain ⟨hlt, he⟩ := List.getElem?_eq_some_iff.1 hs
          rw [← he]; exact List.set_getElem_self hlt
        rw [e]; exact hw
      | false =>
        have hadr : o.adr = some ⟨o.b, 0, none⟩ := by simp [Ow.adr, hn]
        have hseg : o.seg xs E = [(o.b, .cells (encs xs ++ o.sp) E)] := by simp [Ow.seg, hn]
        have hseg2 : o.seg (ys ++ xs.drop ys.length) E = [(o.b, .cells (encs (ys ++ xs.drop ys.length) ++ o.sp) E)] := by simp [Ow.seg, hn]
        rw [hseg] at hin hs
        obtain ⟨ob, hob, fr, rfl, hfr⟩ := hin _ (List.mem_singleton.2 rfl)
        obtain ⟨w', hst, hh, hold, hsz2, hos, htp, hout⟩ := run_stores (P := cx.P) (encs ys) 0 0 (encs xs ++ o.sp) w hob hfr (by rw [List.length_append, encs_length, encs_length]; have := Nat.mul_le_mul_right (Enc.n α) hle; omega) (encs_one ys)
        have hr : (Builtin.copy_ #[S, T] ty #[.slice o.adr xs.length cap, yv]).run cx.P w = .ok (.int .i64 (ys.length : Int)) w' := by
          rw [hadr]
          have hst' : (storeCells ⟨o.b, 0, none⟩ (encs ys)).run cx.P w = .ok () w' := hst
          simp [Builtin.copy_, run_underlying hu, h1, hmin, h2, run_sizeOf' hsz, hst', goInt]
        have hr' : (execOp (ev cx.n base L) ⟨some d, .call ⟨.builtin .copy, #[x, y], #[S, T]⟩, ty, pos, aft, none⟩).run cx.P w = .ok (.value (.int .i64 (ys.length : Int))) w' := by
          simp [execOp, resolve, hx, hy, invoke, builtin, hr]
        simp only [hr', Oper.upon]
        rw [A_put]
        refine hK _ _ _ _ ⟨rfl, rfl, rfl⟩ ?_
        rw [hseg2]
        have ec : List.take (0 + 0) (encs xs ++ o.sp) ++ (encs ys ++ List.drop (0 + 0 + (encs ys).length) (encs xs ++ o.sp)) = encs (ys ++ xs.drop ys.length) ++ o.sp := by
          have : encs xs = encs (xs.take ys.length) ++ encs (xs.drop ys.length) := by rw [← encs_append, List.take_append_drop]
          rw [encs_append, this]
          have hl2 : (encs (xs.take ys.length)).length = (encs ys).length := by rw [encs_length, encs_length, List.length_take, Nat.min_eq_left hle]
          simp [List.drop_append, hl2]
        rw [ec] at hh
        refine hw.turn hs hh ⟨fr, rfl, ?_⟩ hold hsz2 hos htp hout
        have : (encs (ys ++ xs.drop ys.length) ++ o.sp).length = (encs xs ++ o.sp).length := by
          rw [List.length_append, List.length_append, encs_length, encs_length, List.length_append, List.length_drop, show ys.length + (xs.length - ys.length) = xs.length by omega]
        rw [this]; exact hfr)
    (by rintro L' own' ro' ⟨rfl, rfl, rfl⟩; exact h.1)
    (by rintro L' own' ro' ⟨rfl, rfl, rfl⟩; exact h.2)
theorem sap {a : Option Addr} {len cap n : Nat} {e : TypeId} (hx : ev cx.n base L x = .slice a len cap) (hu : cx.P.underlying xt = some (.array n e)) (hl : n ≤ len)
    (h : JG cx md ops Q rest base ((d, .pointer a) :: L) own ro) : JG cx md ops Q ((⟨some d, .sliceToArrayPointer xt x, ty, pos, aft, none⟩, q) :: rest) base L own ro :=
  qt (fun w _ => by
    have hlt : ¬ len < n := by omega
    simp [execOp, hx, Instr.arrayAt, run_underlying hu, hlt]) h
theorem ldRow {α : Type} [Enc α] {t n E : Nat} {a : Option Addr} {o : Ow} {xs : List α} (j : Nat) (hok : o.ok xs) (hn : xs.length = n) (h0 : 0 < n) (hx : ev cx.n base L x = .pointer a) (ha : a = o.adr) (hs : (Src md q own ro)[j]? = some (o.seg xs E)) (ht : Ty cx.P t (Enc.n (Arr α n)) (Enc.ag (Arr α n)))
    (h : JG cx md ops Q rest base ((d, val (⟨xs, hn⟩ : Arr α n)) :: L) own ro) : JG cx md ops Q ((⟨some d, .load t x, ty, pos, aft, none⟩, q) :: rest) base L own ro := by
  subst ha
  have hnl : o.nl = false := Ow.ne hok (i := 0) (by omega)
  have hadr : o.adr = some ⟨o.b, 0, none⟩ := by simp [Ow.adr, hnl]
  have hseg : o.seg xs E = [(o.b, .cells (encs xs ++ o.sp) E)] := by simp [Ow.seg, hnl]
  rw [hadr] at hx
  rw [hseg] at hs
  exact ldg (p := pt (⟨xs, hn⟩ : Arr α n)) hx (List.mem_of_getElem? hs) ht (fun w hw => cellsAt_cells hw (List.mem_singleton.2 rfl) (pre := []) (post := o.sp) rfl rfl) h
end
def idxN (s : Str) (c : UInt8) : Nat := (s.takeWhile (· != c)).length
def idxB (s : Str) (c : UInt8) : Int := if idxN s c < s.length then (idxN s c : Int) else -1
theorem idxN_le (s : Str) (c : UInt8) : idxN s c ≤ s.length := (List.takeWhile_prefix _).length_le
theorem idxN_spec (s : Str) (c : UInt8) : (∀ j, j < idxN s c → List.getD s j 0 ≠ c) ∧ (idxN s c < s.length → List.getD s (idxN s c) 0 = c) := by
  induction s with
  | nil => simp [idxN]
  | cons a r ih =>
    unfold idxN at ih ⊢
    by_cases h : a = c
    · subst h
      simp
    · have hb : (a != c) = true := by simpa using h
      rw [List.takeWhile_cons_of_pos (p := fun x => x != c) hb]
      refine ⟨fun j hj => ?_, fun hl => ?_⟩
      · cases j with
        | zero => simpa using h
        | succ j => simpa using ih.1 j (by simpa using hj)
      · simpa using ih.2 (by simpa using hl)
theorem idxB_at {s : Str} {c : UInt8} (h : 0 ≤ idxB s c) : idxB s c = (idxN s c : Int) := by
  unfold idxB at h ⊢
  by_cases hl : idxN s c < s.length
  · rw [if_pos hl]
  · rw [if_neg hl] at h; omega
theorem idxB_lt {s : Str} {c : UInt8} (h : 0 ≤ idxB s c) : idxN s c < s.length := by
  unfold idxB at h
  by_cases hl : idxN s c < s.length
  · exact hl
  · rw [if_neg hl] at h; omega
theorem idxN_all {s : Str} {c : UInt8} (h : ¬ 0 ≤ idxB s c) : idxN s c = s.length := by
  have := idxN_le s c
  unfold idxB at h
  by_cases hl : idxN s c < s.length
  · rw [if_pos hl] at h; omega
  · omega
theorem run_indexByte {P : Program} (s : Str) (c : UInt8) (w : World) : (Extern.BytealgIndexByte.indexByte #[strV s, .int .u8 (c.toNat : Int)]).run P w = .ok (.int .i64 (idxB s c)) w := by
  have hg : ∀ i, (⟨⟨s⟩⟩ : ByteArray)[i]! = List.getD s i 0 := fun i => by
    by_cases h : i < s.length
    · rw [getElem!_pos (⟨⟨s⟩⟩ : ByteArray) i h]
      have : (⟨⟨s⟩⟩ : ByteArray)[i]'h = s[i] := rfl
      rw [this]; simp [List.getD, h]
    · rw [getElem!_neg (⟨⟨s⟩⟩ : ByteArray) i h]; simp [List.getD, h]; rfl
  have hf : ((List.range (⟨⟨s⟩⟩ : ByteArray).size).find? fun i => (⟨⟨s⟩⟩ : ByteArray)[i]! == c) = if idxN s c < s.length then some (idxN s c) else none := by
    have hsp := idxN_spec s c
    by_cases h : idxN s c < s.length
    · rw [if_pos h]
      refine List.find?_range_eq_some.2 ⟨?_, ?_, ?_⟩
      · rw [hg, hsp.2 h]; simp
      · exact List.mem_range.2 h
      · intro j hj
        rw [hg]
        simpa using hsp.1 j hj
    · rw [if_neg h]
      refine List.find?_range_eq_none.2 fun i hi => ?_
      rw [hg]
      have hi' : i < s.length := hi
      simpa using hsp.1 i (by omega)
  have hc : (c.toNat : Int).toNat.toUInt8 = c := by simp
  have h0 : Extern.BytealgIndexByte.indexByte #[strV s, .int .u8 (c.toNat : Int)] = (match (List.range (⟨⟨s⟩⟩ : ByteArray).size).find? fun i => (⟨⟨s⟩⟩ : ByteArray)[i]! == (c.toNat : Int).toNat.toUInt8 with
      | some i => pure (goInt i)
      | none => pure (goInt (-1))) := rfl
  rw [h0, hc, hf]
  unfold idxB
  by_cases h : idxN s c < s.length
  · simp [h, goInt]
  · simp [h, goInt]
end Go.PW
namespace Go.PW
open Go
def dgv (c : UInt8) : Nat := if c.toNat < 58 then c.toNat - 48 else c.toNat - 87
def valN (b : Nat) (w : Str) : Nat := w.foldl (fun a c => a * b + dgv c) 0
theorem dgv_dch : ∀ d, d < 36 → dgv (dch d) = d := by decide
theorem valN_app (b : Nat) (w : Str) (c : UInt8) : valN b (w ++ [c]) = valN b w * b + dgv c := by simp [valN]
theorem valN_digs {b : Nat} (hb : 2 ≤ b) (hb2 : b ≤ 36) : ∀ k n, valN b (digs b k n) = n % b ^ k
  | 0, n => by simp [digs, valN, Nat.mod_one]
  | k + 1, n => by
    rw [digs, valN_app, valN_digs hb hb2 k (n / b), dgv_dch _ (Nat.lt_of_lt_of_le (Nat.mod_lt _ (by omega)) hb2), Nat.pow_succ', Nat.mod_mul, Nat.mul_comm, Nat.add_comm]
theorem fmtN_lt {b n : Nat} (hb : 2 ≤ b) (h : n < b ^ 65) : n < b ^ (fmtN b n).length := by
  unfold fmtN; rw [digs_length]; exact ndg_lt hb 64 n h
theorem valN_fmt {b n : Nat} (hb : 2 ≤ b) (hb2 : b ≤ 36) (h : n < b ^ 65) : valN b (fmtN b n) = n := by
  have := fmtN_lt hb h
  unfold fmtN at this ⊢
  rw [digs_length] at this
  rw [valN_digs hb hb2, Nat.mod_eq_of_lt this]
theorem u64_pow {b n : Nat} (hb : 2 ≤ b) (h : n < 18446744073709551616) : n < b ^ 65 := by
  have : 2 ^ 65 ≤ b ^ 65 := Nat.pow_le_pow_left hb 65
  omega
def pnum (b : Nat) (w : Str) : Option Nat := if fmtN b (valN b w) = w then some (valN b w) else none
theorem pnum_some {b n : Nat} {w : Str} (h : pnum b w = some n) : w = fmtN b n := by
  unfold pnum at h
  split at h
  · rename_i hh; cases h; exact hh.symm
  · cases h
theorem pnum_fmt {b n : Nat} (hb : 2 ≤ b) (hb2 : b ≤ 36) (h : n < 18446744073709551616) : pnum b (fmtN b n) = some n := by
  unfold pnum; rw [valN_fmt hb hb2 (u64_pow hb h), if_pos rfl]
theorem digs_mem {b : Nat} (hb : 2 ≤ b) (hb2 : b ≤ 36) : ∀ k n x, x ∈ digs b k n → ∃ d, d < b ∧ x = dch d
  | 0, n, x, h => by cases h
  | k + 1, n, x, h => by
    rw [digs] at h
    rcases List.mem_append.1 h with h | h
    · exact digs_mem hb hb2 k _ x h
    · rw [List.mem_singleton] at h; exact ⟨n % b, Nat.mod_lt _ (by omega), h⟩
theorem dch_hex : ∀ d, d < 16 → (dch d).toNat ≠ 125 ∧ (dch d).toNat ≠ 32 := by decide
theorem fmt16_mem {n : Nat} {x : UInt8} (h : x ∈ fmtN 16 n) : x ≠ 125 := by
  obtain ⟨d, h1, rfl⟩ := digs_mem (by omega) (by omega) _ _ _ h
  intro e
  exact (dch_hex d h1).1 (by rw [e]; rfl)
def hexv (c : UInt8) : Nat := if 48 ≤ c.toNat ∧ c.toNat ≤ 57 then c.toNat - 48 else if 97 ≤ c.toNat ∧ c.toNat ≤ 102 then c.toNat - 87 else 16
theorem idx_hex_all : ∀ c : Fin 256, idxB hexL (UInt8.ofNat c.val) = if hexv (UInt8.ofNat c.val) < 16 then (hexv (UInt8.ofNat c.val) : Int) else -1 := by decide +kernel
theorem idx_hex (c : UInt8) : idxB hexL c = if hexv c < 16 then (hexv c : Int) else -1 := by
  have := idx_hex_all ⟨c.toNat, c.toNat_lt⟩
  simpa using this
theorem hexv_le (c : UInt8) : hexv c ≤ 16 := by
  have := c.toNat_lt
  unfold hexv; split
  · omega
  · split <;> omega
theorem or4_all : ∀ h x : Fin 16, (shlU8 (UInt8.ofNat h.val) 4 ||| UInt8.ofNat x.val) = UInt8.ofNat (h.val * 16 + x.val) := by decide +kernel
theorem or4 {h x : Nat} (h1 : h < 16) (h2 : x < 16) : (shlU8 (UInt8.ofNat h) 4 ||| UInt8.ofNat x) = UInt8.ofNat (h * 16 + x) := or4_all ⟨h, h1⟩ ⟨x, h2⟩
def hbyte (w : Str) (i j : Nat) : UInt8 := if 2 * j + 1 < i then UInt8.ofNat (hexv (List.getD w (2 * j) 0) * 16 + hexv (List.getD w (2 * j + 1) 0)) else if 2 * j < i then UInt8.ofNat (hexv (List.getD w (2 * j) 0)) else 0
def hrow (w : Str) (n i : Nat) : Str := (List.range n).map (hbyte w i)
theorem hrow_length (w : Str) (n i : Nat) : (hrow w n i).length = n := by simp [hrow]
theorem hrow_get {w : Str} {n i j : Nat} (h : j < n) : List.getD (hrow w n i) j 0 = hbyte w i j := by simp [hrow, List.getD, h]
theorem hrow_zero (w : Str) (n : Nat) : hrow w n 0 = List.replicate n 0 := by
  apply List.ext_getElem (by simp [hrow])
  intro i h1 h2
  simp [hrow, hbyte]
theorem hrow_step {w : Str} {n i : Nat} (h : i < 2 * n) (h1 : hexv (List.getD w i 0) < 16) (h2 : ∀ j, j < i → hexv (List.getD w j 0) < 16) :
    hrow w n (i + 1) = (hrow w n i).set (i / 2) (shlU8 (List.getD (hrow w n i) (i / 2) 0) 4 ||| UInt8.ofNat (hexv (List.getD w i 0))) := by
  rw [hrow_get (by omega)]
  have hv : (shlU8 (hbyte w i (i / 2)) 4 ||| UInt8.ofNat (hexv (List.getD w i 0))) = hbyte w (i + 1) (i / 2) := by
    unfold hbyte
    rw [if_neg (show ¬ 2 * (i / 2) + 1 < i by omega)]
    rcases Nat.mod_two_eq_zero_or_one i with hm | hm
    · rw [if_neg (by omega), if_neg (by omega), if_pos (by omega), show 2 * (i / 2) = i by omega]
      have := or4 (h := 0) (x := hexv (List.getD w i 0)) (by omega) h1
      simpa using this
    · rw [if_pos (by omega), if_pos (by omega), or4 (h2 _ (by omega)) h1, show 2 * (i / 2) + 1 = i by omega]
  rw [hv]
  apply List.ext_getElem (by simp [hrow])
  intro j h3 h4
  have hj : j < n := by simpa [hrow] using h3
  rw [List.getElem_set]
  by_cases hji : i / 2 = j
  · subst hji; simp [hrow]
  · rw [if_neg hji]
    simp only [hrow, List.getElem_map, List.getElem_range]
    unfold hbyte
    by_cases h5 : 2 * j + 1 < i
    · rw [if_pos h5, if_pos (by omega)]
    · rw [if_neg h5, if_neg (by omega)]
      by_cases h6 : 2 * j < i
      · exfalso; omega
      · rw [if_neg h6, if_neg (by omega)]
def hexb (w : Str) (n : Nat) : Str := hrow w n (2 * n)
def hexok (w : Str) : Bool := w.all fun c => decide (hexv c < 16)
theorem hexok_get {w : Str} (h : hexok w = true) {i : Nat} (hi : i < w.length) : hexv (List.getD w i 0) < 16 := by
  have := List.all_eq_true.1 h (List.getD w i 0) (by simp [List.getD, hi])
  simpa using this
theorem hexok_of {w : Str} (h : ∀ i, i < w.length → hexv (List.getD w i 0) < 16) : hexok w = true := by
  unfold hexok
  rw [List.all_eq_true]
  intro x hx
  obtain ⟨i, hi, rfl⟩ := List.getElem_of_mem hx
  have := h i hi
  simpa [List.getD, hi] using this
theorem hexok_no {w : Str} {i : Nat} (hi : i < w.length) (h : ¬ hexv (List.getD w i 0) < 16) : hexok w = false := by
  cases hb : hexok w with
  | false => rfl
  | true => exact absurd (hexok_get hb hi) h
def hval (w : Str) (i : Nat) : Nat := (w.take i).foldl (fun a c => a * 16 + hexv c) 0
theorem hval_step {w : Str} {i : Nat} (h : i < w.length) : hval w (i + 1) = hval w i * 16 + hexv (List.getD w i 0) := by
  unfold hval
  rw [List.take_succ_eq_append_getElem h, List.foldl_append]
  simp [List.getD, h]
theorem hval_lt {w : Str} (h : hexok w = true) : ∀ i, i ≤ w.length → hval w i < 16 ^ i
  | 0, _ => by simp [hval]
  | i + 1, hi => by
    have h1 := hval_lt h i (by omega)
    have h2 := hexok_get h (i := i) (by omega)
    rw [hval_step (by omega), Nat.pow_succ]; omega
def vrune (c : Nat) : Bool := decide (c < 55296) || (decide (57344 ≤ c) && decide (c ≤ 1114111))
def enc8 (c : Nat) : Str :=
  if c < 128 then [UInt8.ofNat c]
  else if c < 2048 then [UInt8.ofNat (192 + c / 64), UInt8.ofNat (128 + c % 64)]
  else if c < 65536 then [UInt8.ofNat (224 + c / 4096), UInt8.ofNat (128 + c / 64 % 64), UInt8.ofNat (128 + c % 64)]
  else [UInt8.ofNat (240 + c / 262144), UInt8.ofNat (128 + c / 4096 % 64), UInt8.ofNat (128 + c / 64 % 64), UInt8.ofNat (128 + c % 64)]
theorem vrune_iff {c : Nat} : vrune c = true ↔ c < 55296 ∨ (57344 ≤ c ∧ c ≤ 1114111) := by simp [vrune]
theorem bn {n : Nat} (h : n < 256) : (UInt8.ofNat n).toNat = n := by rw [UInt8.toNat_ofNat']; omega
theorem enc8_len (c : Nat) : 1 ≤ (enc8 c).length ∧ (enc8 c).length ≤ 4 := by
  unfold enc8
  repeat' split
  all_goals simp
theorem enc8_read {c : Nat} (hv : vrune c = true) (r : Str) : u8step (enc8 c ++ r) = (enc8 c).length ∧ chr (enc8 c ++ r) = c := by
  rw [vrune_iff] at hv
  unfold enc8
  by_cases h1 : c < 128
  · rw [if_pos h1]
    have b0 := bn (n := c) (by omega)
    have g0 : List.getD ([UInt8.ofNat c] ++ r) 0 0 = UInt8.ofNat c := rfl
    refine ⟨?_, ?_⟩
    · unfold u8step bt; rw [g0, b0, if_pos h1]; rfl
    · unfold chr; rw [g0, b0, if_pos h1]
  rw [if_neg h1]
  by_cases h2 : c < 2048
  · rw [if_pos h2]
    have b0 := bn (n := 192 + c / 64) (by omega)
    have b1 := bn (n := 128 + c % 64) (by omega)
    have g0 : List.getD ([UInt8.ofNat (192 + c / 64), UInt8.ofNat (128 + c % 64)] ++ r) 0 0 = UInt8.ofNat (192 + c / 64) := rfl
    have g1 : List.getD ([UInt8.ofNat (192 + c / 64), UInt8.ofNat (128 + c % 64)] ++ r) 1 0 = UInt8.ofNat (128 + c % 64) := rfl
    refine ⟨?_, ?_⟩
    · unfold u8step bt; rw [g0, g1, b0, b1, if_neg (by omega), if_neg (by omega), if_pos (by omega), if_pos (by simp [cont]; omega)]; rfl
    · unfold chr; rw [g0, g1, b0, b1, if_neg (by omega), if_pos (by omega)]; omega
  rw [if_neg h2]
  by_cases h3 : c < 65536
  · rw [if_pos h3]
    have b0 := bn (n := 224 + c / 4096) (by omega)
    have b1 := bn (n := 128 + c / 64 % 64) (by omega)
    have b2 := bn (n := 128 + c % 64) (by omega)
    have g0 : List.getD ([UInt8.ofNat (224 + c / 4096), UInt8.ofNat (128 + c / 64 % 64), UInt8.ofNat (128 + c % 64)] ++ r) 0 0 = UInt8.ofNat (224 + c / 4096) := rfl
    have g1 : List.getD ([UInt8.ofNat (224 + c / 4096), UInt8.ofNat (128 + c / 64 % 64), UInt8.ofNat (128 + c % 64)] ++ r) 1 0 = UInt8.ofNat (128 + c / 64 % 64) := rfl
    have g2 : List.getD ([UInt8.ofNat (224 + c / 4096), UInt8.ofNat (128 + c / 64 % 64), UInt8.ofNat (128 + c % 64)] ++ r) 2 0 = UInt8.ofNat (128 + c % 64) := rfl
    refine ⟨?_, ?_⟩
    · unfold u8step bt; rw [g0, g1, g2, b0, b1, b2, if_neg (by omega), if_neg (by omega), if_neg (by omega), if_pos (by omega), if_pos (by simp [cont]; omega)]; rfl
    · unfold chr; rw [g0, g1, g2, b0, b1, b2, if_neg (by omega), if_neg (by omega), if_pos (by omega)]; omega
  · rw [if_neg h3]
    have b0 := bn (n := 240 + c / 262144) (by omega)
    have b1 := bn (n := 128 + c / 4096 % 64) (by omega)
    have b2 := bn (n := 128 + c / 64 % 64) (by omega)
    have b3 := bn (n := 128 + c % 64) (by omega)
    have g0 : List.getD ([UInt8.ofNat (240 + c / 262144), UInt8.ofNat (128 + c / 4096 % 64), UInt8.ofNat (128 + c / 64 % 64), UInt8.ofNat (128 + c % 64)] ++ r) 0 0 = UInt8.ofNat (240 + c / 262144) := rfl
    have g1 : List.getD ([UInt8.ofNat (240 + c / 262144), UInt8.ofNat (128 + c / 4096 % 64), UInt8.ofNat (128 + c / 64 % 64), UInt8.ofNat (128 + c % 64)] ++ r) 1 0 = UInt8.ofNat (128 + c / 4096 % 64) := rfl
    have g2 : List.getD ([UInt8.ofNat (240 + c / 262144), UInt8.ofNat (128 + c / 4096 % 64), UInt8.ofNat (128 + c / 64 % 64), UInt8.ofNat (128 + c % 64)] ++ r) 2 0 = UInt8.ofNat (128 + c / 64 % 64) := rfl
    have g3 : List.getD ([UInt8.ofNat (240 + c / 262144), UInt8.ofNat (128 + c / 4096 % 64), UInt8.ofNat (128 + c / 64 % 64), UInt8.ofNat (128 + c % 64)] ++ r) 3 0 = UInt8.ofNat (128 + c % 64) := rfl
    refine ⟨?_, ?_⟩
    · unfold u8step bt; rw [g0, g1, g2, g3, b0, b1, b2, b3, if_neg (by omega), if_neg (by omega), if_neg (by omega), if_neg (by omega), if_pos (by omega), if_pos (by simp [cont]; omega)]; rfl
    · unfold chr; rw [g0, g1, g2, g3, b0, b1, b2, b3, if_neg (by omega), if_neg (by omega), if_neg (by omega)]; omega
theorem ofN (x : UInt8) : UInt8.ofNat x.toNat = x := by simp
theorem chr_enc {t : Str} (h : u8step t ≠ 0) (hl : 0 < t.length) : enc8 (chr t) = t.take (u8step t) ∧ vrune (chr t) = true := by
  have hle := u8step_le h hl
  rw [vrune_iff]
  rcases u8_cases h with c | c | c | c
  · have hk := c.k; have ha := c.a
    match t, hl with
    | a :: r, _ =>
      have g0 : List.getD (a :: r) 0 0 = a := rfl
      rw [g0] at ha
      rw [c.chr, hk, g0]
      refine ⟨?_, by omega⟩
      unfold enc8; rw [if_pos ha, ofN]; rfl
  · have hk := c.k; have ha := c.a; have hb := c.b; have hc := c.chr
    rw [hk] at hle
    match t, hle.2.1 with
    | a :: b :: r, _ =>
      have g0 : List.getD (a :: b :: r) 0 0 = a := rfl
      have g1 : List.getD (a :: b :: r) 1 0 = b := rfl
      rw [g0] at ha; rw [g1] at hb; rw [g0, g1] at hc
      rw [hc, hk]
      refine ⟨?_, by omega⟩
      unfold enc8
      rw [if_neg (by omega), if_pos (by omega), show 192 + (a.toNat % 32 * 64 + b.toNat % 64) / 64 = a.toNat by omega, show 128 + (a.toNat % 32 * 64 + b.toNat % 64) % 64 = b.toNat by omega, ofN, ofN]; rfl
  · have hk := c.k; have ha := c.a; have hb := c.b; have hd := c.c; have hc := c.chr; have hlo := c.lo; have hhi := c.hi
    rw [hk] at hle
    match t, hle.2.1 with
    | a :: b :: e :: r, _ =>
      have g0 : List.getD (a :: b :: e :: r) 0 0 = a := rfl
      have g1 : List.getD (a :: b :: e :: r) 1 0 = b := rfl
      have g2 : List.getD (a :: b :: e :: r) 2 0 = e := rfl
      rw [g0] at ha; rw [g1] at hb; rw [g2] at hd; rw [g0, g1, g2] at hc; rw [g0, g1] at hlo hhi
      rw [hc, hk]
      refine ⟨?_, by omega⟩
      unfold enc8
      rw [if_neg (by omega), if_neg (by omega), if_pos (by omega), show 224 + ((a.toNat % 16 * 64 + b.toNat % 64) * 64 + e.toNat % 64) / 4096 = a.toNat by omega, show 128 + ((a.toNat % 16 * 64 + b.toNat % 64) * 64 + e.toNat % 64) / 64 % 64 = b.toNat by omega, show 128 + ((a.toNat % 16 * 64 + b.toNat % 64) * 64 + e.toNat % 64) % 64 = e.toNat by omega, ofN, ofN, ofN]; rfl
  · have hk := c.k; have ha := c.a; have hb := c.b; have hd := c.c; have he := c.d; have hc := c.chr; have hlo := c.lo; have hhi := c.hi
    rw [hk] at hle
    match t, hle.2.1 with
    | a :: b :: e :: f :: r, _ =>
      have g0 : List.getD (a :: b :: e :: f :: r) 0 0 = a := rfl
      have g1 : List.getD (a :: b :: e :: f :: r) 1 0 = b := rfl
      have g2 : List.getD (a :: b :: e :: f :: r) 2 0 = e := rfl
      have g3 : List.getD (a :: b :: e :: f :: r) 3 0 = f := rfl
      rw [g0] at ha; rw [g1] at hb; rw [g2] at hd; rw [g3] at he; rw [g0, g1, g2, g3] at hc; rw [g0, g1] at hlo hhi
      rw [hc, hk]
      refine ⟨?_, by omega⟩
      unfold enc8
      rw [if_neg (by omega), if_neg (by omega), if_neg (by omega), show 240 + (((a.toNat % 8 * 64 + b.toNat % 64) * 64 + e.toNat % 64) * 64 + f.toNat % 64) / 262144 = a.toNat by omega, show 128 + (((a.toNat % 8 * 64 + b.toNat % 64) * 64 + e.toNat % 64) * 64 + f.toNat % 64) / 4096 % 64 = b.toNat by omega, show 128 + (((a.toNat % 8 * 64 + b.toNat % 64) * 64 + e.toNat % 64) * 64 + f.toNat % 64) / 64 % 64 = e.toNat by omega, show 128 + (((a.toNat % 8 * 64 + b.toNat % 64) * 64 + e.toNat % 64) * 64 + f.toNat % 64) % 64 = f.toNat by omega, ofN, ofN, ofN, ofN]; rfl
end Go.PW
namespace Go.PW
open Go
def coded (r : Str) : Option (Nat × Nat) :=
  if idxN r 125 < r.length ∧ List.getD r 0 0 = 123 then
    (match pnum 16 ((r.drop 1).take (idxN r 125 - 1)) with
      | some n => if vrune n = true ∧ (n < 32 ∨ 126 < n) then some (n, idxN r 125 + 1) else none
      | none => none)
  else none
def unq (r : Str) : Option Str :=
  if r.length = 0 then some []
  else if (List.getD r 0 0).toNat < 32 ∨ 126 < (List.getD r 0 0).toNat ∨ List.getD r 0 0 = 34 then none
  else if List.getD r 0 0 ≠ 92 then (unq (r.drop 1)).map ([List.getD r 0 0] ++ ·)
  else if 1 < r.length ∧ (List.getD r 1 0 = 34 ∨ List.getD r 1 0 = 92) then (unq (r.drop 2)).map ([List.getD r 1 0] ++ ·)
  else if 1 < r.length ∧ List.getD r 1 0 = 117 then
    (match coded (r.drop 2) with
      | some (c, n) => (unq (r.drop (2 + n))).map (enc8 c ++ ·)
      | none => none)
  else none
termination_by r.length
decreasing_by all_goals (simp; omega)
theorem unq_nil {r : Str} (h : r.length = 0) : unq r = some [] := by rw [unq, if_pos h]
theorem unq_bad {r : Str} (h : 0 < r.length) (h1 : (List.getD r 0 0).toNat < 32 ∨ 126 < (List.getD r 0 0).toNat ∨ List.getD r 0 0 = 34) : unq r = none := by rw [unq, if_neg (by omega), if_pos h1]
theorem unq_one {r : Str} (h : 0 < r.length) (h1 : ¬((List.getD r 0 0).toNat < 32 ∨ 126 < (List.getD r 0 0).toNat ∨ List.getD r 0 0 = 34)) (h2 : List.getD r 0 0 ≠ 92) : unq r = (unq (r.drop 1)).map ([List.getD r 0 0] ++ ·) := by rw [unq, if_neg (by omega), if_neg h1, if_pos h2]
theorem sl_plain {r : Str} (h : List.getD r 0 0 = 92) : ¬((List.getD r 0 0).toNat < 32 ∨ 126 < (List.getD r 0 0).toNat ∨ List.getD r 0 0 = 34) := by rw [h]; decide
theorem unq_two {r : Str} (h : 1 < r.length) (h1 : List.getD r 0 0 = 92) (h2 : List.getD r 1 0 = 34 ∨ List.getD r 1 0 = 92) : unq r = (unq (r.drop 2)).map ([List.getD r 1 0] ++ ·) := by
  rw [unq, if_neg (by omega), if_neg (sl_plain h1), if_neg (by simpa using h1), if_pos ⟨h, h2⟩]
theorem unq_u {r : Str} (h : 1 < r.length) (h1 : List.getD r 0 0 = 92) (h2 : List.getD r 1 0 = 117) : unq r = (match coded (r.drop 2) with | some (c, n) => (unq (r.drop (2 + n))).map (enc8 c ++ ·) | none => none) := by
  rw [unq, if_neg (by omega), if_neg (sl_plain h1), if_neg (by simpa using h1), if_neg (by rw [h2]; simp), if_pos ⟨h, h2⟩]
theorem unq_no {r : Str} (h : 0 < r.length) (h1 : List.getD r 0 0 = 92) (h2 : ¬(1 < r.length ∧ (List.getD r 1 0 = 34 ∨ List.getD r 1 0 = 92))) (h3 : ¬(1 < r.length ∧ List.getD r 1 0 = 117)) : unq r = none := by
  rw [unq, if_neg (by omega), if_neg (sl_plain h1), if_neg (by simpa using h1), if_neg h2, if_neg h3]
theorem idxN_app (a : Str) (c : UInt8) (r : Str) (h : ∀ x ∈ a, x ≠ c) : idxN (a ++ c :: r) c = a.length := by
  unfold idxN
  induction a with
  | nil => simp
  | cons x a ih =>
    have hx : (x != c) = true := by simpa using h x (by simp)
    rw [List.cons_append, List.takeWhile_cons_of_pos (p := fun x => x != c) hx]
    simpa using ih fun y hy => h y (by simp [hy])
theorem coded_fmt {n : Nat} (hv : vrune n = true) (hp : n < 32 ∨ 126 < n) (rest : Str) : coded ([123] ++ fmtN 16 n ++ 125 :: rest) = some (n, (fmtN 16 n).length + 2) := by
  have hi : idxN ([123] ++ fmtN 16 n ++ 125 :: rest) 125 = (fmtN 16 n).length + 1 := by
    rw [idxN_app]
    · simp
    · intro x hx
      rcases List.mem_append.1 hx with h | h
      · rw [List.mem_singleton] at h; subst h; decide
      · exact fmt16_mem h
  unfold coded
  rw [hi, if_pos ⟨by simp, rfl⟩]
  have e : ((([123] ++ fmtN 16 n ++ 125 :: rest).drop 1).take ((fmtN 16 n).length + 1 - 1)) = fmtN 16 n := by simp
  have hn : n < 18446744073709551616 := by rw [vrune_iff] at hv; omega
  rw [e, pnum_fmt (by omega) (by omega) hn]
  simp only
  rw [if_pos ⟨hv, hp⟩]
theorem unq_qbody : ∀ (k : Nat) (t : Str), t.length ≤ k → u8ok t = true → unq (qbody t) = some t
  | k, t, hk, h => by
    by_cases h0 : t.length = 0
    · rw [qbody_nil h0, unq_nil rfl, List.eq_nil_of_length_eq_zero h0]
    · have hl : 0 < t.length := by omega
      have hs := u8ok_step h hl
      have hle := u8step_le hs hl
      cases k with
      | zero => omega
      | succ k =>
        have ih := unq_qbody k (t.drop (u8step t)) (by rw [List.length_drop]; omega) (u8ok_rest h hl)
        obtain ⟨he, hv⟩ := chr_enc hs hl
        have hlt := chr_lt t
        rw [qbody_go hs hl]
        generalize hq : qbody (t.drop (u8step t)) = r at ih ⊢
        by_cases hc : chr t = 34 ∨ chr t = 92
        · have ha := chr_asc hs (by omega)
          have hb := bn (n := chr t) (by omega)
          rw [qstep_q hc]
          have g1 : List.getD ([92, UInt8.ofNat (chr t)] ++ r) 1 0 = UInt8.ofNat (chr t) := rfl
          rw [unq_two (by simp) rfl (by rw [g1]; rcases hc with hc | hc <;> rw [hc] <;> simp), g1]
          have : ([92, UInt8.ofNat (chr t)] ++ r).drop 2 = r := rfl
          rw [this, ih]
          show some ([UInt8.ofNat (chr t)] ++ t.drop (u8step t)) = some t
          rw [ha.1, ← chr_take hs hl (by omega), List.take_append_drop]
        · by_cases hp : 32 ≤ chr t ∧ chr t ≤ 126
          · have ha := chr_asc hs (by omega)
            have hb := bn (n := chr t) (by omega)
            rw [qstep_p hc hp]
            have g0 : List.getD ([UInt8.ofNat (chr t)] ++ r) 0 0 = UInt8.ofNat (chr t) := rfl
            have hne : ∀ m : Nat, m < 256 → chr t ≠ m → UInt8.ofNat (chr t) ≠ UInt8.ofNat m := fun m hm hne e => hne (by
              have := congrArg UInt8.toNat e; rw [hb, bn hm] at this; exact this)
            rw [unq_one (by simp) (by rw [g0, hb]; intro h; rcases h with h | h | h; omega; omega; exact hne 34 (by omega) (by omega) h) (by rw [g0]; exact hne 92 (by omega) (by omega)), g0]
            have : ([UInt8.ofNat (chr t)] ++ r).drop 1 = r := rfl
            rw [this, ih]
            show some ([UInt8.ofNat (chr t)] ++ t.drop (u8step t)) = some t
            rw [ha.1, ← chr_take hs hl (by omega), List.take_append_drop]
          · rw [qstep_u hc hp]
            have e : [92, 117, 123] ++ fmtN 16 (chr t) ++ [125] ++ r = 92 :: 117 :: ([123] ++ fmtN 16 (chr t) ++ 125 :: r) := by simp
            rw [e, unq_u (by simp) rfl rfl]
            have hd : (92 :: 117 :: ([123] ++ fmtN 16 (chr t) ++ 125 :: r)).drop 2 = [123] ++ fmtN 16 (chr t) ++ 125 :: r := rfl
            rw [hd, coded_fmt hv (by omega)]
            simp only
            have hd2 : (92 :: 117 :: ([123] ++ fmtN 16 (chr t) ++ 125 :: r)).drop (2 + ((fmtN 16 (chr t)).length + 2)) = r := by
              rw [← List.drop_drop, hd]
              have : [123] ++ fmtN 16 (chr t) ++ 125 :: r = ([123] ++ fmtN 16 (chr t) ++ [125]) ++ r := by simp
              rw [this]
              exact List.drop_left' (by simp)
            rw [hd2, ih]
            show some (enc8 (chr t) ++ t.drop (u8step t)) = some t
            rw [he, List.take_append_drop]
theorem coded_some {r : Str} {c n : Nat} (h : coded r = some (c, n)) : vrune c = true ∧ (c < 32 ∨ 126 < c) ∧ n = (fmtN 16 c).length + 2 ∧ n ≤ r.length ∧ r = [123] ++ fmtN 16 c ++ [125] ++ r.drop n := by
  unfold coded at h
  by_cases h1 : idxN r 125 < r.length ∧ List.getD r 0 0 = 123
  · rw [if_pos h1] at h
    cases hp : pnum 16 ((r.drop 1).take (idxN r 125 - 1)) with
    | none => rw [hp] at h; cases h
    | some m =>
      rw [hp] at h
      simp only at h
      by_cases h2 : vrune m = true ∧ (m < 32 ∨ 126 < m)
      · rw [if_pos h2] at h
        cases h
        have hw := pnum_some hp
        have hi := idxN_spec r 125
        have hpos : 1 ≤ idxN r 125 := by
          rcases Nat.eq_zero_or_pos (idxN r 125) with h0 | h0
          · have := hi.2 h1.1; rw [h0, h1.2] at this; exact absurd this (by decide)
          · exact h0
        have hlen : (fmtN 16 c).length = idxN r 125 - 1 := by rw [← hw]; simp; omega
        refine ⟨h2.1, h2.2, by omega, by omega, ?_⟩
        have hr : r = r.take 1 ++ ((r.drop 1).take (idxN r 125 - 1) ++ ((r.drop (idxN r 125)).take 1 ++ r.drop (idxN r 125 + 1))) := by
          have e1 : r.drop (idxN r 125) = (r.drop (idxN r 125)).take 1 ++ r.drop (idxN r 125 + 1) := by rw [← List.drop_drop, List.take_append_drop]
          have e2 : r.drop 1 = (r.drop 1).take (idxN r 125 - 1) ++ r.drop (idxN r 125) := by
            conv => lhs; rw [← List.take_append_drop (idxN r 125 - 1) (r.drop 1)]
            rw [List.drop_drop, show 1 + (idxN r 125 - 1) = idxN r 125 by omega]
          rw [← e1, ← e2, List.take_append_drop]
        have t0 : r.take 1 = [123] := by
          cases r with
          | nil => simp at h1
          | cons a r => have : a = 123 := h1.2; subst this; rfl
        have t1 : (r.drop (idxN r 125)).take 1 = [125] := by
          have := hi.2 h1.1
          have e : r[idxN r 125]'h1.1 = 125 := by simpa [List.getD, h1.1] using this
          rw [List.drop_eq_getElem_cons h1.1, e]; rfl
        rw [t0, t1, hw] at hr
        conv => lhs; rw [hr]
        simp
      · rw [if_neg h2] at h; cases h
  · rw [if_neg h1] at h; cases h
theorem head_eq {r : Str} (h : 0 < r.length) : r = [List.getD r 0 0] ++ r.drop 1 := by
  cases r with
  | nil => simp at h
  | cons a r => rfl
theorem head2_eq {r : Str} (h : 1 < r.length) : r = [List.getD r 0 0, List.getD r 1 0] ++ r.drop 2 := by
  match r, h with
  | a :: b :: r, _ => rfl
theorem u8_cons {c : Nat} (hv : vrune c = true) {t : Str} (h : u8ok t = true) : u8ok (enc8 c ++ t) = true ∧ qbody (enc8 c ++ t) = qstep c ++ qbody t := by
  obtain ⟨h1, h2⟩ := enc8_read hv t
  have hl := enc8_len c
  have hs : u8step (enc8 c ++ t) ≠ 0 := by omega
  have hd : (enc8 c ++ t).drop (u8step (enc8 c ++ t)) = t := by rw [h1]; exact List.drop_left' rfl
  constructor
  · rw [← u8ok_go (u8step (enc8 c ++ t)) (by simp; omega) rfl (by omega), hd]; exact h
  · rw [qbody_go hs (by simp; omega), hd, h2]
theorem enc8_one (x : UInt8) (h : x.toNat < 128) : enc8 x.toNat = [x] := by unfold enc8; rw [if_pos h, ofN]
theorem unq_some : ∀ (k : Nat) (r t : Str), r.length ≤ k → unq r = some t → u8ok t = true ∧ qbody t = r
  | k, r, t, hk, h => by
    by_cases h0 : r.length = 0
    · rw [unq_nil h0] at h; cases h
      exact ⟨u8ok_nil rfl, by rw [qbody_nil rfl, List.eq_nil_of_length_eq_zero h0]⟩
    · have hl : 0 < r.length := by omega
      cases k with
      | zero => omega
      | succ k =>
        by_cases hb : (List.getD r 0 0).toNat < 32 ∨ 126 < (List.getD r 0 0).toNat ∨ List.getD r 0 0 = 34
        · rw [unq_bad hl hb] at h; cases h
        · by_cases h9 : List.getD r 0 0 ≠ 92
          · rw [unq_one hl hb h9] at h
            obtain ⟨t', ht, rfl⟩ := Option.map_eq_some_iff.1 h
            obtain ⟨i1, i2⟩ := unq_some k (r.drop 1) t' (by rw [List.length_drop]; omega) ht
            have hr : 32 ≤ (List.getD r 0 0).toNat ∧ (List.getD r 0 0).toNat ≤ 126 := by omega
            have h34 : (List.getD r 0 0).toNat ≠ 34 := fun e => hb (.inr (.inr (UInt8.toNat_inj.1 e)))
            have h92 : (List.getD r 0 0).toNat ≠ 92 := fun e => h9 (UInt8.toNat_inj.1 e)
            have hu := u8_cons (c := (List.getD r 0 0).toNat) (by rw [vrune_iff]; omega) i1
            rw [enc8_one _ (by omega)] at hu
            refine ⟨hu.1, ?_⟩
            rw [hu.2, i2, qstep_p (by omega) hr, ofN]
            exact (head_eq hl).symm
          · have h9' : List.getD r 0 0 = 92 := Decidable.byContradiction h9
            by_cases h2 : 1 < r.length ∧ (List.getD r 1 0 = 34 ∨ List.getD r 1 0 = 92)
            · rw [unq_two h2.1 h9' h2.2] at h
              obtain ⟨t', ht, rfl⟩ := Option.map_eq_some_iff.1 h
              obtain ⟨i1, i2⟩ := unq_some k (r.drop 2) t' (by rw [List.length_drop]; omega) ht
              have hc : (List.getD r 1 0).toNat = 34 ∨ (List.getD r 1 0).toNat = 92 := by rcases h2.2 with e | e <;> rw [e] <;> decide
              have hu := u8_cons (c := (List.getD r 1 0).toNat) (by rw [vrune_iff]; omega) i1
              rw [enc8_one _ (by omega)] at hu
              refine ⟨hu.1, ?_⟩
              rw [hu.2, i2, qstep_q hc, ofN]
              have := head2_eq h2.1
              rw [h9'] at this
              exact this.symm
            · by_cases h3 : 1 < r.length ∧ List.getD r 1 0 = 117
              · rw [unq_u h3.1 h9' h3.2] at h
                cases hcd : coded (r.drop 2) with
                | none => rw [hcd] at h; cases h
                | some p =>
                  obtain ⟨c, n⟩ := p
                  rw [hcd] at h
                  simp only at h
                  obtain ⟨t', ht, rfl⟩ := Option.map_eq_some_iff.1 h
                  obtain ⟨c1, c2, c3, c4, c5⟩ := coded_some hcd
                  obtain ⟨i1, i2⟩ := unq_some k (r.drop (2 + n)) t' (by rw [List.length_drop]; omega) ht
                  have hu := u8_cons c1 i1
                  refine ⟨hu.1, ?_⟩
                  rw [hu.2, i2, qstep_u (by omega) (by omega)]
                  have e := head2_eq h3.1
                  rw [h9', h3.2] at e
                  conv => rhs; rw [e, c5, List.drop_drop]
                  simp
              · rw [unq_no hl h9' h2 h3] at h; cases h
theorem unq_iff {r t : Str} : unq r = some t ↔ u8ok t = true ∧ r = qbody t := by
  constructor
  · intro h
    obtain ⟨h1, h2⟩ := unq_some r.length r t (Nat.le_refl _) h
    exact ⟨h1, h2.symm⟩
  · rintro ⟨h1, rfl⟩
    exact unq_qbody t.length t (Nat.le_refl _) h1
end Go.PW
namespace Go.PW
open Go
def blk (s : Str) (p : Nat) : Bool := decide (p < s.length) && decide (List.getD s p 0 = 32)
def wlen (s : Str) (p : Nat) : Nat := idxN (s.drop p) 32
def word (s : Str) (p : Nat) : Str := (s.drop p).take (wlen s p)
theorem wlen_le (s : Str) (p : Nat) : wlen s p ≤ s.length - p := by have := idxN_le (s.drop p) 32; rw [List.length_drop] at this; exact this
theorem word_length (s : Str) (p : Nat) : (word s p).length = wlen s p := by
  unfold word; rw [List.length_take, Nat.min_eq_left (by have := wlen_le s p; rw [List.length_drop]; exact this)]
abbrev PR (α : Type) := Sum Nat (α × Nat)
def numR (s : Str) (l m p : Nat) : PR Nat :=
  if blk s p = true then (match pnum 10 (word s (p + 1)) with
    | some n => if l ≤ n ∧ n ≤ m then .inr (n, p + 1 + wlen s (p + 1)) else .inl (p + 1)
    | none => .inl (p + 1))
  else .inl p
def hexR (s : Str) (n p : Nat) : PR Str :=
  if blk s p = true then (if wlen s (p + 1) = 2 * n ∧ hexok (word s (p + 1)) = true then .inr (word s (p + 1), p + 1 + wlen s (p + 1)) else .inl (p + 1)) else .inl p
def degB (w : Str) : F64 := ⟨UInt64.ofNat (hval w w.length)⟩
def qstop (s : Str) (i : Nat) : Nat :=
  if i < s.length ∧ List.getD s i 0 ≠ 34 then qstop s (i + (if List.getD s i 0 = 92 then 2 else 1)) else i
termination_by s.length - i
decreasing_by split <;> omega
theorem qstop_end {s : Str} {i : Nat} (h : ¬(i < s.length ∧ List.getD s i 0 ≠ 34)) : qstop s i = i := by rw [qstop, if_neg h]
theorem qstop_two {s : Str} {i : Nat} (h : i < s.length) (h1 : List.getD s i 0 = 92) : qstop s i = qstop s (i + 2) := by rw [qstop, if_pos ⟨h, by rw [h1]; decide⟩, if_pos h1]
theorem qstop_one {s : Str} {i : Nat} (h : i < s.length) (h0 : List.getD s i 0 ≠ 34) (h1 : List.getD s i 0 ≠ 92) : qstop s i = qstop s (i + 1) := by rw [qstop, if_pos ⟨h, h0⟩, if_neg h1]
theorem qstop_ge : ∀ (k : Nat) (s : Str) (i : Nat), s.length - i ≤ k → i ≤ qstop s i
  | k, s, i, hk => by
    by_cases h : i < s.length ∧ List.getD s i 0 ≠ 34
    · cases k with
      | zero => omega
      | succ k =>
        by_cases h1 : List.getD s i 0 = 92
        · rw [qstop_two h.1 h1]; have := qstop_ge k s (i + 2) (by omega); omega
        · rw [qstop_one h.1 h.2 h1]; have := qstop_ge k s (i + 1) (by omega); omega
    · rw [qstop_end h]; omega
theorem qstop_at : ∀ (k : Nat) (s : Str) (i : Nat), s.length - i ≤ k → qstop s i < s.length → List.getD s (qstop s i) 0 = 34
  | k, s, i, hk, hq => by
    by_cases h : i < s.length ∧ List.getD s i 0 ≠ 34
    · cases k with
      | zero => omega
      | succ k =>
        by_cases h1 : List.getD s i 0 = 92
        · rw [qstop_two h.1 h1] at hq ⊢; exact qstop_at k s (i + 2) (by omega) hq
        · rw [qstop_one h.1 h.2 h1] at hq ⊢; exact qstop_at k s (i + 1) (by omega) hq
    · rw [qstop_end h] at hq ⊢
      exact Decidable.byContradiction fun hn => h ⟨hq, hn⟩
def qin (s : Str) (a : Nat) : Str := (s.drop (a + 1)).take (qstop s (a + 1) - (a + 1))
def textR (s : Str) (lo hi p : Nat) : PR Str :=
  if blk s p = true then
    (if p + 1 < s.length ∧ List.getD s (p + 1) 0 = 34 ∧ qstop s (p + 2) < s.length then
      (match unq (qin s (p + 1)) with
        | some t => if lo ≤ t.length ∧ t.length ≤ hi then .inr (t, qstop s (p + 2) + 1) else .inl (p + 1)
        | none => .inl (p + 1))
    else .inl (p + 1))
  else .inl p
def marksR (s : Str) : Nat → List UInt32 → Nat → Nat → PR (List UInt32)
  | 0, _, _, _ => .inl 0
  | f + 1, l, least, p => match numR s least 4294967295 p with
    | .inl q => .inl q
    | .inr (n, q) => if l.length = 100 then .inl (p + 1) else if q < s.length then marksR s f (l ++ [UInt32.ofNat n]) (n + 1) q else .inr (l ++ [UInt32.ofNat n], q)
def bindR {α β : Type} (x : PR α) (f : α → Nat → PR β) : PR β := match x with | .inl q => .inl q | .inr (a, q) => f a q
def endR {α : Type} (s : Str) (q : Nat) (c : α) : PR α := if q < s.length then .inl q else .inr (c, q)
theorem bindR_l {α β : Type} {x : PR α} {f : α → Nat → PR β} {q : Nat} (h : x = .inl q) : bindR x f = .inl q := by subst h; rfl
theorem bindR_r {α β : Type} {x : PR α} {f : α → Nat → PR β} {a : α} {q : Nat} (h : x = .inr (a, q)) : bindR x f = f a q := by subst h; rfl
theorem endR_l {α : Type} {s : Str} {q : Nat} {c : α} (h : q < s.length) : endR s q c = .inl q := if_pos h
theorem endR_r {α : Type} {s : Str} {q : Nat} {c : α} (h : ¬ q < s.length) : endR s q c = .inr (c, q) := if_neg h
def mkKey (l : Str) : Key := if h : l.length = 32 then ⟨l, h⟩ else zarr
theorem mkKey_l {l : Str} (h : l.length = 32) : mkKey l = ⟨l, h⟩ := dif_pos h
theorem numR_no {s : Str} {l m p : Nat} (h : blk s p = false) : numR s l m p = .inl p := by unfold numR; rw [h]; rfl
theorem numR_ok {s : Str} {l m p n : Nat} (h : blk s p = true) (hn : pnum 10 (word s (p + 1)) = some n) (hb : l ≤ n ∧ n ≤ m) : numR s l m p = .inr (n, p + 1 + wlen s (p + 1)) := by
  unfold numR; rw [if_pos h, hn]; simp only; rw [if_pos hb]
theorem numR_bad {s : Str} {l m p : Nat} (h : blk s p = true) (hn : ∀ n, pnum 10 (word s (p + 1)) = some n → ¬(l ≤ n ∧ n ≤ m)) : numR s l m p = .inl (p + 1) := by
  unfold numR; rw [if_pos h]
  cases hp : pnum 10 (word s (p + 1)) with
  | none => rfl
  | some n => simp only; rw [if_neg (hn n hp)]
theorem numR_least {s : Str} {l m p n q : Nat} (h : numR s 0 m p = .inr (n, q)) : numR s l m p = if l ≤ n then .inr (n, q) else .inl (p + 1) := by
  unfold numR at h ⊢
  by_cases hb : blk s p = true
  · rw [if_pos hb] at h ⊢
    cases hp : pnum 10 (word s (p + 1)) with
    | none => rw [hp] at h; cases h
    | some k =>
      rw [hp] at h
      simp only at h ⊢
      by_cases h2 : 0 ≤ k ∧ k ≤ m
      · rw [if_pos h2] at h; cases h
        by_cases h3 : l ≤ n
        · rw [if_pos ⟨h3, h2.2⟩, if_pos h3]
        · rw [if_neg (fun h => h3 h.1), if_neg h3]
      · rw [if_neg h2] at h; cases h
  · rw [if_neg hb] at h; cases h
theorem numR_least_l {s : Str} {l m p q : Nat} (h : numR s 0 m p = .inl q) : numR s l m p = .inl q := by
  unfold numR at h ⊢
  by_cases hb : blk s p = true
  · rw [if_pos hb] at h ⊢
    cases hp : pnum 10 (word s (p + 1)) with
    | none => rw [hp] at h; exact h
    | some k =>
      rw [hp] at h
      simp only at h ⊢
      by_cases h2 : 0 ≤ k ∧ k ≤ m
      · rw [if_pos h2] at h; cases h
      · rw [if_neg h2] at h; rw [if_neg (by omega)]; exact h
  · rw [if_neg hb] at h ⊢; exact h
theorem numR_next {s : Str} {l m p n q : Nat} (h : numR s l m p = .inr (n, q)) : p < q ∧ q ≤ s.length ∧ l ≤ n ∧ n ≤ m := by
  unfold numR at h
  by_cases hb : blk s p = true
  · rw [if_pos hb] at h
    have hp : p < s.length := by simp only [blk, Bool.and_eq_true, decide_eq_true_eq] at hb; exact hb.1
    cases hpn : pnum 10 (word s (p + 1)) with
    | none => rw [hpn] at h; cases h
    | some k =>
      rw [hpn] at h
      simp only at h
      by_cases h2 : l ≤ k ∧ k ≤ m
      · rw [if_pos h2] at h; cases h
        have := wlen_le s (p + 1)
        exact ⟨by omega, by omega, h2.1, h2.2⟩
      · rw [if_neg h2] at h; cases h
  · rw [if_neg hb] at h; cases h
theorem hexR_no {s : Str} {n p : Nat} (h : blk s p = false) : hexR s n p = .inl p := by unfold hexR; rw [h]; rfl
theorem hexR_ok {s : Str} {n p : Nat} (h : blk s p = true) (h1 : wlen s (p + 1) = 2 * n) (h2 : hexok (word s (p + 1)) = true) : hexR s n p = .inr (word s (p + 1), p + 1 + wlen s (p + 1)) := by
  unfold hexR; rw [if_pos h, if_pos ⟨h1, h2⟩]
theorem hexR_bad {s : Str} {n p : Nat} (h : blk s p = true) (h1 : ¬(wlen s (p + 1) = 2 * n ∧ hexok (word s (p + 1)) = true)) : hexR s n p = .inl (p + 1) := by
  unfold hexR; rw [if_pos h, if_neg h1]
theorem textR_no {s : Str} {lo hi p : Nat} (h : blk s p = false) : textR s lo hi p = .inl p := by unfold textR; rw [h]; rfl
theorem textR_out {s : Str} {lo hi p : Nat} (h : blk s p = true) (h1 : ¬(p + 1 < s.length ∧ List.getD s (p + 1) 0 = 34 ∧ qstop s (p + 2) < s.length)) : textR s lo hi p = .inl (p + 1) := by
  unfold textR; rw [if_pos h, if_neg h1]
theorem textR_bad {s : Str} {lo hi p : Nat} (h : blk s p = true) (h1 : ∀ t, unq (qin s (p + 1)) = some t → ¬(lo ≤ t.length ∧ t.length ≤ hi)) : textR s lo hi p = .inl (p + 1) := by
  unfold textR; rw [if_pos h]
  split
  · cases hu : unq (qin s (p + 1)) with
    | none => rfl
    | some t => simp only; rw [if_neg (h1 t hu)]
  · rfl
theorem textR_ok {s : Str} {lo hi p : Nat} {t : Str} (h : blk s p = true) (h1 : p + 1 < s.length ∧ List.getD s (p + 1) 0 = 34 ∧ qstop s (p + 2) < s.length) (h2 : unq (qin s (p + 1)) = some t) (h3 : lo ≤ t.length ∧ t.length ≤ hi) : textR s lo hi p = .inr (t, qstop s (p + 2) + 1) := by
  unfold textR; rw [if_pos h, if_pos h1, h2]; simp only; rw [if_pos h3]
end Go.PW
namespace Go.Proofs.YthpbiamicidakaaDoor
open Go Go.Proofs Go.PW
open Go.PW.Enc (enc val)
theorem slIndexByte_ct (s : Str) (c : UInt8) : Ct Tryd.prog 88 [strV s, .int .u8 (c.toNat : Int)] [] [] (fun v o r => v = .int .i64 (idxB s c) ∧ o = [] ∧ r = []) := by
  refine ct_enter Tryd.func88 rfl Tryd.ntmps88 (by kernel_rfl) rfl fun w0 => ?_
  refine c_seq ?_
  refine c_reg ?_
  refine asg (.int _ _) rfl ?_
  refine jt ?_
  refine c_seq ?_
  refine c_reg ?_
  refine mv (.string _) rfl ?_
  refine mv (.int _ _) rfl ?_
  refine xcal (args := [strV s, .int .u8 (c.toNat : Int)]) (.int .i64 (idxB s c)) Tryd.func111 (by kernel_rfl) (by kernel_rfl) (by kernel_rfl) (fun w => run_indexByte s c w) (by kernel_rfl) rfl ?_
  refine asg (.int _ _) rfl ?_
  refine jt ?_
  refine c_ret ?_
  exact j_end (own0 := []) (ro0 := []) (.inl rfl) rfl (hr1 Tryd.results88 (rvt (v := (.int _ _)) rfl)) [] [] [] [] [] _ rfl rfl (by kernel_rfl) rfl impl_nil (⟨rfl, rfl, rfl⟩)
theorem sIndexByte_ct (s : Str) (c : UInt8) : Ct Tryd.prog 63 [strV s, .int .u8 (c.toNat : Int)] [] [] (fun v o r => v = .int .i64 (idxB s c) ∧ o = [] ∧ r = []) := by
  refine ct_enter Tryd.func63 rfl Tryd.ntmps63 (by kernel_rfl) rfl fun w0 => ?_
  refine c_seq ?_
  refine c_reg ?_
  refine asg (.int _ _) rfl ?_
  refine jt ?_
  refine c_seq ?_
  refine c_reg ?_
  refine mv (.string _) rfl ?_
  refine mv (.int _ _) rfl ?_
  refine cal (slIndexByte_ct s c) [] [] [] rfl rfl rfl (by kernel_rfl) impl_nil rfl ?_; rintro _ _ _ ⟨rfl, rfl, rfl⟩; refine ⟨trivial, ?_⟩
  refine asg (.int _ _) rfl ?_
  refine jt ?_
  refine c_ret ?_
  exact j_end (own0 := []) (ro0 := []) (.inl rfl) rfl (hr1 Tryd.results63 (rvt (v := (.int _ _)) rfl)) [] [] [] [] [] _ rfl rfl (by kernel_rfl) rfl impl_nil (⟨rfl, rfl, rfl⟩)
set_option maxRecDepth 20000 in
set_option maxHeartbeats 4000000 in
theorem slIndex_ct (t : Str) : Ct Tryd.prog 102 [strV t, strV ([32] : Str)] [] [] (fun v o r => v = .int .i64 (idxB t 32) ∧ o = [] ∧ r = []) := by
  refine ct_enter Tryd.func102 rfl Tryd.ntmps102 (by kernel_rfl) rfl fun w0 => ?_
  refine c_seq ?_
  refine c_reg ?_
  refine asg (.int _ _) rfl ?_
  refine jt ?_
  refine c_seq ?_
  refine c_reg ?_
  refine mv (.string _) rfl ?_
  refine lenC (s := ([32] : Str)) 1 rfl Tryd.underlying9 rfl ?_
  refine asg (.int _ _) rfl ?_
  refine jt ?_
  refine c_seq ?_
  refine c_block ?_
  refine c_seq ?_
  refine c_reg ?_
  refine mv (.int _ _) rfl ?_
  refine cmp false rfl rfl rfl ?_
  refine mv (.bool _) rfl ?_
  refine g_on rfl rfl rfl ?_
  refine mv (.string _) rfl ?_
  refine g_on rfl rfl rfl ?_
  refine mv (.string _) rfl ?_
  refine g_on rfl rfl rfl ?_
  refine scmp (a := ([32] : Str)) (b := t) _ rfl rfl Tryd.underlying9 rfl ?_
  refine pkf (.bool _) rfl rfl ?_
  refine asg (.bool _) rfl ?_
  refine jt ?_
  refine c_cond rfl (fun h1 => ?_) (fun h1 => ?_)
  · replace h1 := of_decide_eq_true h1
    refine c_seq ?_
    refine c_reg ?_
    refine asg (.int _ _) rfl ?_
    refine jt ?_
    refine c_ret ?_
    exact j_end (own0 := []) (ro0 := []) (.inl rfl) rfl (hr1 Tryd.results102 (rvt (v := (.int _ _)) rfl)) [] [] [] [] [] _ rfl rfl (by kernel_rfl) rfl impl_nil (⟨by rw [← h1]; rfl, rfl, rfl⟩)
  · replace h1 := of_decide_eq_false h1
    refine c_seq ?_
    refine c_reg ?_
    refine mv (.int _ _) rfl ?_
    refine cmp true rfl rfl rfl ?_
    refine asg (.bool _) rfl ?_
    refine jt ?_
    refine c_true rfl ?_
    refine c_seq ?_
    refine c_reg ?_
    refine mv (.string _) rfl ?_
    refine mv (.string _) rfl ?_
    refine idxT (s := ([32] : Str)) 0 rfl rfl Tryd.underlying9 rfl (by first | omega | (simp; done) | (simp; omega) | (simp at *; omega)) ?_
    refine cal (slIndexByte_ct t (List.getD ([32] : Str) 0 0)) [] [] [] rfl rfl rfl (by kernel_rfl) impl_nil rfl ?_; rintro _ _ _ ⟨rfl, rfl, rfl⟩; refine ⟨trivial, ?_⟩
    refine asg (.int _ _) rfl ?_
    refine jt ?_
    refine c_ret ?_
    exact j_end (own0 := []) (ro0 := []) (.inl rfl) rfl (hr1 Tryd.results102 (rvt (v := (.int _ _)) rfl)) [] [] [] [] [] _ rfl rfl (by kernel_rfl) rfl impl_nil (⟨rfl, rfl, rfl⟩)
theorem slCut_ct (t : Str) (ht : t.length ≤ 9223372036854775806) : Ct Tryd.prog 84 [strV t, strV ([32] : Str)] [] [] (fun v o r => ∃ (a : Str) (f : Bool), v = .tuple #[strV (t.take (idxN t 32)), strV a, .bool f] ∧ o = [] ∧ r = []) := by
  have HL := idxN_le t 32
  refine ct_enter Tryd.func84 rfl Tryd.ntmps84 (by kernel_rfl) rfl fun w0 => ?_
  refine c_seq ?_
  refine c_reg ?_
  refine asg (.string _) rfl ?_
  refine asg (.string _) rfl ?_
  refine asg (.bool _) rfl ?_
  refine jt ?_
  refine c_seq ?_
  refine c_seq ?_
  refine c_reg ?_
  refine mv (.string _) rfl ?_
  refine mv (.string _) rfl ?_
  refine cal (slIndex_ct t) [] [] [] rfl rfl rfl (by kernel_rfl) impl_nil rfl ?_; rintro _ _ _ ⟨rfl, rfl, rfl⟩; refine ⟨trivial, ?_⟩
  refine asg (.int _ _) rfl ?_
  refine jt ?_
  refine c_seq ?_
  refine c_reg ?_
  refine mv (.int _ _) rfl ?_
  refine cmp _ rfl rfl rfl ?_
  refine jt ?_
  refine c_cond rfl (fun h1 => ?_) (fun h1 => ?_)
  · replace h1 := of_decide_eq_true h1
    refine c_seq ?_
    have HI := idxB_at h1
    have HJ := idxB_lt h1
    refine c_dr [] [] [(0, 0), (1, 0), (2, 0), (3, 0), (4, 0), (5, 0), (6, 0), (7, 0), (8, 0), (9, 0), (10, 0), (11, 0)] follows (by kernel_rfl) calm_body (keepS [] rfl) ?_
    refine mv (.string _) rfl ?_
    refine mv (.int _ _) rfl ?_
    refine cutT (s := t) 0 (idxN t 32) rfl Tryd.underlying9 rfl ⟨_, congrArg (Value.int _) (by omega)⟩ (by first | omega | (simp; done) | (simp; omega)) (by first | omega | (simp; done) | (simp; omega)) (List.take (idxN t 32) t) (cut_lo _ _) ?_
    refine mv (.string _) rfl ?_
    refine mv (.int _ _) rfl ?_
    refine mv (.string _) rfl ?_
    refine lenC (s := ([32] : Str)) 1 rfl Tryd.underlying9 rfl ?_
    refine addi rfl rfl rfl (by omega) ?_
    refine cutT (s := t) (idxN t 32 + 1) t.length rfl Tryd.underlying9 ⟨_, congrArg (Value.int _) (by omega)⟩ rfl (by omega) (by omega) (List.drop (idxN t 32 + 1) t) (cut_hi _ _) ?_
    refine asg (.string _) rfl ?_
    refine asg (.string _) rfl ?_
    refine asg (.bool _) rfl ?_
    refine jt ?_
    refine c_ret ?_
    exact j_end (own0 := []) (ro0 := []) (.inl rfl) rfl (hr3 Tryd.results84 (rvt (v := (.string _)) rfl) (rvt (v := (.string _)) rfl) (rvt (v := (.bool _)) rfl)) [] [] [] [] [] _ rfl rfl (by kernel_rfl) rfl impl_nil (⟨_, _, rfl, rfl, rfl⟩)
  · replace h1 := of_decide_eq_false h1
    refine c_skip ?_
    refine e_then ?_
    refine c_seq ?_
    refine c_reg ?_
    refine mv (.string _) rfl ?_
    refine asg (.string _) rfl ?_
    refine asg (.string _) rfl ?_
    refine asg (.bool _) rfl ?_
    refine jt ?_
    refine c_ret ?_
    exact j_end (own0 := []) (ro0 := []) (.inl rfl) rfl (hr3 Tryd.results84 (rvt (v := (.string _)) rfl) (rvt (v := (.string _)) rfl) (rvt (v := (.bool _)) rfl)) [] [] [] [] [] _ rfl rfl (by kernel_rfl) rfl impl_nil (⟨[], false, by rw [idxN_all h1, List.take_length], rfl, rfl⟩)
theorem sCut_ct (t : Str) (ht : t.length ≤ 9223372036854775806) : Ct Tryd.prog 58 [strV t, strV ([32] : Str)] [] [] (fun v o r => ∃ (a : Str) (f : Bool), v = .tuple #[strV (t.take (idxN t 32)), strV a, .bool f] ∧ o = [] ∧ r = []) := by
  refine ct_enter Tryd.func58 rfl Tryd.ntmps58 (by kernel_rfl) rfl fun w0 => ?_
  refine c_seq ?_
  refine c_reg ?_
  refine asg (.string _) rfl ?_
  refine asg (.string _) rfl ?_
  refine asg (.bool _) rfl ?_
  refine jt ?_
  refine c_seq ?_
  refine c_reg ?_
  refine mv (.string _) rfl ?_
  refine mv (.string _) rfl ?_
  refine cal (slCut_ct t ht) [] [] [] rfl rfl rfl (by kernel_rfl) impl_nil rfl ?_; rintro _ _ _ ⟨ca1, cf1, rfl, rfl, rfl⟩; refine ⟨trivial, ?_⟩
  refine xtr (.string _) rfl rfl ?_
  refine xtr (.string _) rfl rfl ?_
  refine xtr (.bool _) rfl rfl ?_
  refine asg (.string _) rfl ?_
  refine asg (.string _) rfl ?_
  refine asg (.bool _) rfl ?_
  refine jt ?_
  refine c_ret ?_
  exact j_end (own0 := []) (ro0 := []) (.inl rfl) rfl (hr3 Tryd.results58 (rvt (v := (.string _)) rfl) (rvt (v := (.string _)) rfl) (rvt (v := (.bool _)) rfl)) [] [] [] [] [] _ rfl rfl (by kernel_rfl) rfl impl_nil (⟨_, _, rfl, rfl, rfl⟩)
end Go.Proofs.YthpbiamicidakaaDoor
namespace Go.PW
open Enc (enc val)
open Go Go.ChangeShapes Go.WideShapes Go.RowKit Go.Deep
section
variable {P : Program}
theorem opn_u64 {t : TypeId} (hu : P.underlying t = some (.int .u64)) : Opn P t UInt64 := opn_int hu fun n hw => by
  have : 0 ≤ n ∧ n ≤ 18446744073709551615 := by simpa [Lit.wf, IntKind.min, IntKind.max, IntKind.signed, IntKind.bits] using hw
  refine ⟨UInt64.ofNat n.toNat, ?_⟩
  show [Value.int .u64 n] = [Value.int .u64 ((UInt64.ofNat n.toNat).toNat : Nat)]
  rw [UInt64.toNat_ofNat_of_lt' (by show n.toNat < 18446744073709551616; omega)]
  rw [Int.toNat_of_nonneg this.1]
theorem opn_str {t : TypeId} (hu : P.underlying t = some .string) : OpnM P t Str fun _ s => s.length ≤ 9223372036854775807 := fun hx _ => by
  obtain ⟨s, rfl, _, hl⟩ := DataW.trod_string hu hx
  exact ⟨s.data.toList, rfl, hl⟩
theorem open_agg {H : Type} {encH : TypeId × Value → H} {t : TypeId} {fs : Array Field} (hu : P.underlying t = some (.struct fs)) {W : World} {base : Nat} {v : Value} {d : DataW H} {p : List MemPlace}
    (hval : Value.okWide P W .any base t v) (h : DataW.Trod encH P W 0 (fun _ => true) true t v d p) : ∃ (cs : List Value) (fuel : Nat), v = .agg ⟨cs⟩ ∧ DataW.trod encH P W 0 (fun _ => true) true fuel t cs = some (d, p) := by
  unfold Value.okWide at hval
  rw [hu] at hval
  obtain ⟨cs, rfl, _⟩ := hval
  obtain ⟨fuel, hf⟩ := h
  exact ⟨cs.toList, fuel, rfl, hf⟩
def OpnD (P : Program) (t : TypeId) (α : Type) [Enc α] (dat : α → DataW Unit) : Prop := ∀ {encH : TypeId × Value → Unit} {w : World} {base : Nat} {sp : Nat → Bool} {held : Bool} {fuel : Nat} {cs : List Value} {d : DataW Unit} {p : List MemPlace},
  DataW.trod encH P w base sp held fuel t cs = some (d, p) → ∃ a : α, cs = enc a ∧ d = dat a
def dU8 (x : UInt8) : DataW Unit := .lit (.int .u8 x.toNat)
def dU64 (x : UInt64) : DataW Unit := .lit (.int .u64 x.toNat)
def dArr {α : Type} {n : Nat} (f : α → DataW Unit) (x : Arr α n) : DataW Unit := .agg (x.l.map f)
theorem opnD_u8 {t} (hu : P.underlying t = some (.int .u8)) : OpnD P t UInt8 dU8 := fun hx => by
  obtain ⟨n, rfl, e, hw⟩ := DataW.trod_int hu hx
  have : 0 ≤ n ∧ n ≤ 255 := by simpa [Lit.wf, IntKind.min, IntKind.max, IntKind.signed, IntKind.bits] using hw
  have e2 : n = ((UInt8.ofNat n.toNat).toNat : Int) := by rw [UInt8.toNat_ofNat_of_lt' (by show n.toNat < 256; omega)]; omega
  refine ⟨UInt8.ofNat n.toNat, ?_, ?_⟩
  · show _ = [Value.int .u8 _]; rw [← e2]
  · unfold dU8; rw [← e2]; exact congrArg (·.1) e
theorem opnD_u64 {t} (hu : P.underlying t = some (.int .u64)) : OpnD P t UInt64 dU64 := fun hx => by
  obtain ⟨n, rfl, e, hw⟩ := DataW.trod_int hu hx
  have : 0 ≤ n ∧ n ≤ 18446744073709551615 := by simpa [Lit.wf, IntKind.min, IntKind.max, IntKind.signed, IntKind.bits] using hw
  have e2 : n = ((UInt64.ofNat n.toNat).toNat : Int) := by rw [UInt64.toNat_ofNat_of_lt' (by show n.toNat < 18446744073709551616; omega)]; omega
  refine ⟨UInt64.ofNat n.toNat, ?_, ?_⟩
  · show _ = [Value.int .u64 _]; rw [← e2]
  · unfold dU64; rw [← e2]; exact congrArg (·.1) e
theorem chunksD {α : Type} [Enc α] {f : α → DataW Unit} : ∀ (n : Nat) (cs : List Value) (xs : List (DataW Unit)), cs.length = n * Enc.n α → xs.length = n → (∀ i (h : i < xs.length), ∃ a : α, (cs.drop (i * Enc.n α)).take (Enc.n α) = enc a ∧ xs[i] = f a) →
    ∃ l : List α, l.length = n ∧ cs = encs l ∧ xs = l.map f
  | 0, cs, xs, hl, hx, _ => ⟨[], rfl, by rw [Nat.zero_mul] at hl; exact List.eq_nil_of_length_eq_zero hl, by simpa using hx⟩
  | n + 1, cs, [], _, hx, _ => by simp at hx
  | n + 1, cs, x :: xs, hl, hx, h => by
    obtain ⟨a, ha, hfa⟩ := h 0 (Nat.succ_pos _)
    obtain ⟨l, h1, h2, h3⟩ := chunksD (α := α) (f := f) n (cs.drop (Enc.n α)) xs (by rw [List.length_drop, hl, Nat.succ_mul]; omega) (by simpa using hx) fun i hi => by
      obtain ⟨b, hb, hfb⟩ := h (i + 1) (by simpa using hi)
      exact ⟨b, by rw [List.drop_drop, ← hb, Nat.succ_mul, Nat.add_comm], by simpa using hfb⟩
    refine ⟨a :: l, by simp [h1], ?_, by simp only [List.map_cons, ← h3]; rw [← hfa]; rfl⟩
    simp only [Nat.zero_mul, List.drop_zero] at ha
    show cs = (a :: l).flatMap enc
    rw [List.flatMap_cons, ← ha]
    show cs = _ ++ encs l
    rw [← h2, List.take_append_drop]
theorem opnD_arr {t e : TypeId} {n : Nat} {α : Type} [Enc α] {f : α → DataW Unit} (hu : P.underlying t = some (.array n e)) (hc : P.cellsOf e = Enc.n α) (hs : P.cellsOf t = n * Enc.n α) (h : OpnD P e α f) : OpnD P t (Arr α n) (dArr f) := by
  intro encH w base sp held fuel cs d p hx
  obtain ⟨xs, m, _, hd, hl, hlen, hf⟩ := DataW.trod_array hu hx
  obtain ⟨l, h1, h2, h3⟩ := chunksD (f := f) n cs (xs.map (·.1)) (by rw [hl, hs]) (by simp [hlen]) fun i hi => by
    have hi' : i < xs.length := by simpa using hi
    have := hf i (by omega)
    rw [List.getElem?_eq_getElem hi', hc] at this
    obtain ⟨a, ha, hb⟩ := h (d := xs[i].1) (p := xs[i].2) this
    exact ⟨a, ha, by simpa using hb⟩
  exact ⟨⟨l, h1⟩, h2, (congrArg (·.1) hd).trans (congrArg DataW.agg h3)⟩
theorem dU8_inj {a b : UInt8} (h : dU8 a = dU8 b) : a = b := by
  simp only [dU8, DataW.lit.injEq, Lit.int.injEq, true_and] at h
  exact UInt8.toNat_inj.1 (by omega)
theorem dU64_inj {a b : UInt64} (h : dU64 a = dU64 b) : a = b := by
  simp only [dU64, DataW.lit.injEq, Lit.int.injEq, true_and] at h
  exact UInt64.toNat_inj.1 (by omega)
theorem dArr_inj {α : Type} {n : Nat} {f : α → DataW Unit} (hf : ∀ {a b}, f a = f b → a = b) {a b : Arr α n} (h : dArr f a = dArr f b) : a = b := by
  simp only [dArr, DataW.agg.injEq] at h
  exact Arr.ext (List.map_inj_right (fun _ _ => hf) |>.1 h)
theorem laid_row {α : Type} [Enc α] {n : Nat} {f : α → DataW Unit} {w : World} {name : String} {d : DataW Unit} {g t : Nat} (x : Arr α n) (hg : P.globalNamed name = some g) (ht : (P.globals[g]?).map (·.type) = some t) (ho : OpnD P t (Arr α n) (dArr f)) (hf : ∀ {a b}, f a = f b → a = b) (hd : d = dArr f x)
    (h : ∃ g t cs fuel p, P.globalNamed name = some g ∧ (P.globals[g]?).map (·.type) = some t ∧ w.var? P name = some cs ∧ DataW.trod (fun _ => ()) P w 0 (fun _ => true) false fuel t cs.toList = some (d, p)) : SegIn w [(g, .view 0 (encs x.l))] := by
  obtain ⟨g', t', cs, fuel, p, h1, h2, h3, h4⟩ := h
  obtain rfl := Option.some.inj (hg.symm.trans h1)
  obtain rfl := Option.some.inj (ht.symm.trans h2)
  obtain ⟨a, e1, e2⟩ := ho h4
  have e3 : a = x := dArr_inj hf (e2.symm.trans hd)
  subst e3
  intro q hq
  rw [List.mem_singleton] at hq; subst hq
  unfold World.var? at h3
  rw [hg] at h3
  simp only [Option.bind_some] at h3
  cases hh : w.heap[g]? with
  | none => rw [hh] at h3; cases h3
  | some o =>
    rw [hh] at h3
    cases o with
    | cells c E fr =>
      simp only [Option.some.injEq] at h3
      subst h3
      refine ⟨_, rfl, _, _, _, rfl, fun i v hv => ?_⟩
      have e4 : c = ⟨encs a.l⟩ := by apply Array.ext'; exact e1
      rw [e4, Nat.zero_add]; simpa using hv
    | _ => cases h3
theorem laid_one {w : World} {name : String} {d : DataW Unit} {l : List (String × DataW Unit)} : ∀ {ps : List MemPlace}, DataW.LaidVars P w l ps → (name, d) ∈ l →
    ∃ g t cs fuel p, P.globalNamed name = some g ∧ (P.globals[g]?).map (·.type) = some t ∧ w.var? P name = some cs ∧ DataW.trod (fun _ => ()) P w 0 (fun _ => true) false fuel t cs.toList = some (d, p) := by
  induction l with
  | nil => intro ps _ h; cases h
  | cons x r ih =>
    intro ps h hm
    obtain ⟨n, d'⟩ := x
    obtain ⟨g, t, cs, fuel, p, q, h1, h2, h3, h4, h5, _⟩ := h
    rcases List.mem_cons.1 hm with e | hm
    · simp only [Prod.mk.injEq] at e; obtain ⟨rfl, rfl⟩ := e
      exact ⟨g, t, cs, fuel, p, h1, h2, h3, h4⟩
    · exact ih h5 hm
end
end Go.PW
namespace Go.PW
open Enc (enc val)
open Go
section
variable {cx : Cx} {md : Md} {ops : Array Oper} {Q : Exit → Act → World → Prop} {rest : List (Oper × Nat)} {kq : Nat} {base : Nat → Value} {L : List (Nat × Value)} {own ro : List Seg}
variable {q : Nat} {d : Nat} {ty : TypeId} {pos : String} {aft : Array Edge} {x y z : Operand} {xt yt : TypeId} {k k2 : IntKind}
theorem negU {a : UInt64} (hx : ev cx.n base L x = .int .u64 (a.toNat : Int)) (h : JG cx md ops Q rest base ((d, .int .u64 ((0 - a).toNat : Int)) :: L) own ro) : JG cx md ops Q ((⟨some d, .unOp .neg xt x, ty, pos, aft, none⟩, q) :: rest) base L own ro :=
  negC (((0 - a).toNat : Nat) : Int) hx (by
    have ha := a.toNat_lt
    rw [wrapU64, UInt64.toNat_sub]
    show (0 - (a.toNat : Int)) % 18446744073709551616 = (((2 ^ 64 - a.toNat + (0 : UInt64).toNat) % 2 ^ 64 : Nat) : Int)
    rw [show (0 : UInt64).toNat = 0 from rfl]; omega) h
theorem ldv1 {t bk : Nat} {v : Value} (j : Nat) (hx : ev cx.n base L x = .pointer (some ⟨bk, 0, none⟩)) (h1 : v.oneCell' = true) (hs : (Src md q own ro)[j]? = some [(bk, .view 0 [v])]) (ht : Ty cx.P t 1 false)
    (h : JG cx md ops Q rest base ((d, v) :: L) own ro) : JG cx md ops Q ((⟨some d, .load t x, ty, pos, aft, none⟩, q) :: rest) base L own ro :=
  ldg (p := p1 v h1) hx (List.mem_of_getElem? hs) ht (fun w hw => cellsAt_view hw (List.mem_singleton.2 rfl) (pre := []) (post := []) (by simp [p1]) rfl) h
end
def tIf (b : Nat) (u : TypeId) (v : Value) : Seg := [(b, .view 0 [.iface u v])]
theorem laid_if {P : Program} {w : World} {name nm : String} {d : DataW Unit} {g t : Nat} {ms} (hg : P.globalNamed name = some g) (ht : (P.globals[g]?).map (·.type) = some t) (hu : P.underlying t = some (.interface ms))
    (h : ∃ g t cs fuel p, P.globalNamed name = some g ∧ (P.globals[g]?).map (·.type) = some t ∧ w.var? P name = some cs ∧ DataW.trod (fun _ => ()) P w 0 (fun _ => true) false fuel t cs.toList = some (.iface nm d, p)) : ∃ u v, SegIn w (tIf g u v) := by
  obtain ⟨g', t', cs, fuel, p, h1, h2, h3, h4⟩ := h
  obtain rfl := Option.some.inj (hg.symm.trans h1)
  obtain rfl := Option.some.inj (ht.symm.trans h2)
  obtain ⟨_, u, v, hc, _, _⟩ := iface_of_trod hu h4
  refine ⟨u, v, ?_⟩
  intro q hq
  unfold tIf at hq
  rw [List.mem_singleton] at hq; subst hq
  unfold World.var? at h3
  rw [hg] at h3
  simp only [Option.bind_some] at h3
  cases hh : w.heap[g]? with
  | none => rw [hh] at h3; cases h3
  | some o =>
    rw [hh] at h3
    cases o with
    | cells c E fr =>
      simp only [Option.some.injEq] at h3
      subst h3
      refine ⟨_, rfl, _, _, _, rfl, fun i v' hv => ?_⟩
      have e4 : c = ⟨[.iface u v]⟩ := by apply Array.ext'; exact hc
      rw [e4, Nat.zero_add]; simpa using hv
    | _ => cases h3
theorem digs_get (b : Nat) : ∀ (k n i : Nat), i < k → List.getD (digs b k n) i 0 = dch (n / b ^ (k - 1 - i) % b)
  | 0, _, _, h => by omega
  | k + 1, n, i, h => by
    rw [digs]
    by_cases hi : i < k
    · have hl : i < (digs b k (n / b)).length := by rw [digs_length]; exact hi
      have e : List.getD (digs b k (n / b) ++ [dch (n % b)]) i 0 = List.getD (digs b k (n / b)) i 0 := by
        simp only [List.getD_eq_getElem?_getD]; rw [List.getElem?_append_left hl]
      rw [e, digs_get b k (n / b) i hi, Nat.div_div_eq_div_mul, ← Nat.pow_succ']
      congr 4; omega
    · obtain rfl : i = k := by omega
      have e : List.getD (digs b i (n / b) ++ [dch (n % b)]) i 0 = dch (n % b) := by
        simp only [List.getD_eq_getElem?_getD]; rw [List.getElem?_append_right (by rw [digs_length]; omega), digs_length]; simp
      rw [e, show i + 1 - 1 - i = 0 by omega, Nat.pow_zero, Nat.div_one]
theorem fmt_get {b m : Nat} {w : Str} (e : w = fmtN b m) {i : Nat} (hi : i < w.length) : List.getD w i 0 = dch (m / b ^ (w.length - 1 - i) % b) := by
  have hl : w.length = ndg b 64 m := by rw [e]; unfold fmtN; rw [digs_length]
  rw [hl] at hi ⊢
  rw [e]; exact digs_get b _ _ _ hi
theorem pu_step {b M m n i : Nat} {w : Str} (hb : 2 ≤ b) (e : w = fmtN b m) (hm : m ≤ M) (hi : i < w.length) (hn : n = m / b ^ (w.length - i)) : ∃ k, k < b ∧ List.getD w i 0 = dch k ∧ n * b + k = m / b ^ (w.length - (i + 1)) ∧ n * b + k ≤ M := by
  have h1 := fmt_get e hi
  refine ⟨m / b ^ (w.length - 1 - i) % b, Nat.mod_lt _ (by omega), h1, ?_, ?_⟩
  · rw [hn, show w.length - i = (w.length - (i + 1)) + 1 by omega, Nat.pow_succ, ← Nat.div_div_eq_div_mul, show w.length - 1 - i = w.length - (i + 1) by omega]
    have := Nat.div_add_mod (m / b ^ (w.length - (i + 1))) b
    rw [Nat.mul_comm]; exact this
  · have h2 : n * b + m / b ^ (w.length - 1 - i) % b = m / b ^ (w.length - (i + 1)) := by
      rw [hn, show w.length - i = (w.length - (i + 1)) + 1 by omega, Nat.pow_succ, ← Nat.div_div_eq_div_mul, show w.length - 1 - i = w.length - (i + 1) by omega]
      have := Nat.div_add_mod (m / b ^ (w.length - (i + 1))) b
      rw [Nat.mul_comm]; exact this
    rw [h2]; exact Nat.le_trans (Nat.div_le_self _ _) hm
theorem pu_start {b m : Nat} {w : Str} (hb : 2 ≤ b) (e : w = fmtN b m) (h : m < 18446744073709551616) : 0 = m / b ^ w.length := by
  rw [e, Nat.div_eq_of_lt (fmtN_lt hb (u64_pow hb h))]
theorem fmt_ne {b m : Nat} : fmtN b m ≠ [] := fun e => by have := (fmtN_length b m).1; rw [e] at this; simp at this
theorem dch_low : ∀ k, k < 16 → (48 ≤ (dch k).toNat ∧ (dch k).toNat ≤ 57 ∧ (dch k - 48).toNat = k) ∨ (¬ (dch k).toNat ≤ 57 ∧ 97 ≤ (dch k ||| 32).toNat ∧ (dch k ||| 32).toNat ≤ 122 ∧ ((dch k ||| 32) - 97 + 10).toNat = k) := by decide +kernel
theorem dch_sign : ∀ k, k < 16 → dch k ≠ 43 ∧ dch k ≠ 45 ∧ dch k ≠ 95 := by decide
end Go.PW
namespace Go.Proofs.YthpbiamicidakaaDoor
open Go Go.Proofs Go.PW
open Go.PW.Enc (enc val)
theorem lower_ct (c : UInt8) : Ct Tryd.prog 105 [.int .u8 (c.toNat : Int)] [] [] (fun v o r => v = .int .u8 ((c ||| 32).toNat : Int) ∧ o = [] ∧ r = []) := by
  refine ct_enter Tryd.func105 rfl Tryd.ntmps105 (by kernel_rfl) rfl fun w0 => ?_
  refine c_seq ?_
  refine c_reg ?_
  refine asg (.int _ _) rfl ?_
  refine jt ?_
  refine c_seq ?_
  refine c_reg ?_
  refine mv (.int _ _) rfl ?_
  refine orU8 (a := c) (b := (32 : UInt8)) rfl rfl ?_
  refine asg (.int _ _) rfl ?_
  refine jt ?_
  refine c_ret ?_
  exact j_end (own0 := []) (ro0 := []) (.inl rfl) rfl (hr1 Tryd.results105 (rvt (v := (.int _ _)) rfl)) [] [] [] [] [] _ rfl rfl (by kernel_rfl) rfl impl_nil (⟨rfl, rfl, rfl⟩)
set_option maxRecDepth 20000 in
set_option maxHeartbeats 4000000 in
theorem iParseUint10_ct (w : Str) (hw : w.length ≤ 9223372036854775806) : Ct Tryd.prog 86 [strV w, .int .i64 10, .int .i64 64] [] [] (fun v o r => (∃ n : UInt64, (∀ m, m ≤ 18446744073709551615 → w = fmtN 10 m → n.toNat = m) ∧ v = .tuple #[.int .u64 (n.toNat : Int), .nilIface] ∧ o = [] ∧ r = []) ∨ ((∀ m, m ≤ 18446744073709551615 → w ≠ fmtN 10 m) ∧ ∃ (n : UInt64) (c : Int), (c = 1 ∧ n.toNat = 18446744073709551615 ∨ c = 2) ∧ v = .tuple #[.int .u64 (n.toNat : Int), .iface 141 (.int .i64 c)] ∧ o = [] ∧ r = [])) := by
  refine ct_enter Tryd.func86 rfl Tryd.ntmps86 (by kernel_rfl) rfl fun w0 => ?_
  refine c_seq ?_
  refine c_reg ?_
  refine asg (.int _ _) rfl ?_
  refine asg .nilIface rfl ?_
  refine jt ?_
  refine c_seq ?_
  refine c_seq ?_
  refine c_reg ?_
  refine mv (.string _) rfl ?_
  refine scmp (a := w) (b := ([] : Str)) _ rfl rfl Tryd.underlying9 rfl ?_
  refine jt ?_
  refine c_cond rfl (fun h1 => ?_) (fun h1 => ?_)
  · replace h1 := of_decide_eq_true h1
    refine c_seq ?_
    refine c_reg ?_
    refine mki (v := (.int _ _)) rfl Tryd.underlying141 rfl ?_
    refine asg (.int _ _) rfl ?_
    refine asg (.iface _ _) rfl ?_
    refine jt ?_
    refine c_ret ?_
    exact j_end (own0 := []) (ro0 := []) (.inl rfl) rfl (hr2 Tryd.results86 (rvt (v := (.int _ _)) rfl) (rvt (v := (.iface _ _)) rfl)) [] [] [] [] [] _ rfl rfl (by kernel_rfl) rfl impl_nil (.inr ⟨fun m hm e => by exact fmt_ne (e.symm.trans h1), (0 : UInt64), 2, .inr rfl, rfl, rfl, rfl⟩)
  · replace h1 := of_decide_eq_false h1
    refine c_skip ?_
    refine e_then ?_
    refine c_seq ?_
    refine c_reg ?_
    refine mv (.int _ _) rfl ?_
    refine cmp false rfl rfl rfl ?_
    refine asg (.bool _) rfl ?_
    refine jt ?_
    refine c_seq ?_
    refine c_reg ?_
    refine mv (.string _) rfl ?_
    refine asg (.string _) rfl ?_
    refine jt ?_
    refine c_seq ?_
    refine c_block ?_
    refine c_seq ?_
    refine c_reg ?_
    refine mv (.int _ _) rfl ?_
    refine cmp true rfl rfl rfl ?_
    refine mv (.bool _) rfl ?_
    refine g_on rfl rfl rfl ?_
    refine mv (.int _ _) rfl ?_
    refine g_on rfl rfl rfl ?_
    refine cmp true rfl rfl rfl ?_
    refine pkt (.bool _) rfl rfl ?_
    refine asg (.bool _) rfl ?_
    refine jt ?_
    refine c_true rfl ?_
    refine c_skip ?_
    refine e_in ?_
    refine e_then ?_
    refine c_seq ?_
    refine c_seq ?_
    refine c_reg ?_
    refine mv (.int _ _) rfl ?_
    refine cmp false rfl rfl rfl ?_
    refine jt ?_
    refine c_false rfl ?_
    refine c_seq ?_
    refine c_reg ?_
    refine mv (.int _ _) rfl ?_
    refine cmp false rfl rfl rfl ?_
    refine mv (.bool _) rfl ?_
    refine g_on rfl rfl rfl ?_
    refine mv (.int _ _) rfl ?_
    refine g_on rfl rfl rfl ?_
    refine cmp false rfl rfl rfl ?_
    refine pkf (.bool _) rfl rfl ?_
    refine jt ?_
    refine c_false rfl ?_
    refine c_skip ?_
    refine e_then ?_
    refine c_seq ?_
    refine c_reg ?_
    refine asg (.int _ _) rfl ?_
    refine jt ?_
    refine c_seq ?_
    refine c_seq ?_
    refine c_reg ?_
    refine mv (.int _ _) rfl ?_
    refine jt ?_
    refine c_block ?_
    refine c_seq ?_
    refine c_reg ?_
    refine cmp true rfl rfl rfl ?_
    refine asg (.bool _) rfl ?_
    refine jt ?_
    refine c_true rfl ?_
    refine c_reg ?_
    refine asg (.int _ _) rfl ?_
    refine jn ?_
    refine e_in ?_
    refine e_then ?_
    refine c_seq ?_
    refine c_reg ?_
    refine mv (.int _ _) rfl ?_
    refine cvI 64 rfl Tryd.underlying3 Tryd.underlying87 (by kernel_rfl) ?_
    refine bopI (.int .u64 0) rfl rfl (by kernel_rfl) ?_
    refine bopI (.int .u64 18446744073709551615) rfl rfl (by kernel_rfl) ?_
    refine asg (.int _ _) rfl ?_
    refine jt ?_
    refine c_seq ?_
    refine c_reg ?_
    refine asg (.bool _) rfl ?_
    refine jt ?_
    refine c_seq ?_
    refine c_reg ?_
    refine asg (.int _ _) rfl ?_
    refine jt ?_
    refine c_seq ?_
    refine c_seq ?_
    refine c_reg ?_
    refine mv (.string _) rfl ?_
    refine cvSB (s := w) rfl Tryd.underlying9 Tryd.underlying50 Tryd.underlying5 fun c99 hc99 => ⟨trivial, ?_⟩
    refine lenS rfl Tryd.underlying50 ?_
    refine mv (.int _ _) rfl ?_
    refine jt ?_
    refine c_block ?_
    refine c_loop (σ := Nat × UInt64) (fun (i, n) => i ≤ w.length ∧ ∀ m, m ≤ 18446744073709551615 → w = fmtN 10 m → n.toNat = m / 10 ^ (w.length - i)) (fun (i, n) => w.length - i) (fun (i, n) => [(101, .int .i64 (i : Int)), (13, .int .u64 (n.toNat : Int)), (12, .bool false)]) (fun (i, n) => [c99.seg w 5]) (fun (i, n) => []) [6, 7, 12, 13, 15, 16, 17, 101, 102, 103, 104, 105, 106, 107, 108, 109, 110, 111, 112, 113, 114, 115, 116, 117, 118, 119, 120, 121, 122, 123, 124, 125, 126, 127, 128, 129, 130, 131, 132, 133, 134, 135, 136, 137, 138, 139, 140, 141, 142, 143, 144, 145, 146, 147, 148, 149, 150, 151, 152, 153, 154, 155, 156, 157, 158, 159, 160, 161, 162, 163] (0, 0) (⟨by omega, fun m hm e => pu_start (by omega) e (by omega)⟩) ⟨rfl, rfl, rfl, trivial⟩ rfl rfl ?_
    rintro ⟨i, n⟩ g1 hI1
    try dsimp only at hI1 ⊢
    refine c_seq ?_
    refine c_reg ?_
    refine cmp _ rfl rfl rfl ?_
    refine jt ?_
    refine c_seq ?_
    refine c_cond rfl (fun h2 => ?_) (fun h2 => ?_)
    · replace h2 := of_decide_eq_true h2
      refine c_skip ?_
      refine e_then ?_
      refine c_seq ?_
      refine c_block ?_
      refine c_seq ?_
      refine c_reg ?_
      refine ixs ((c99).vs) w i (Ow.vs_ok hc99) rfl rfl rfl Tryd.underlying50 ty5.sz rfl (by first | omega | (simp; done) | (simp; omega) | (simp at *; omega)) ?_
      refine ldsoG 0 (List.getD w i 0) hc99 rfl rfl rfl rfl (getD_some (by first | omega | (simp; done) | (simp; omega) | (simp at *; omega))) ty5 ?_
      refine asg (.int _ _) rfl ?_
      refine jt ?_
      refine c_seq ?_
      have HS := fun m (hm : m ≤ 18446744073709551615) (e : w = fmtN 10 m) => pu_step (b := 10) (by omega) e hm (show i < w.length by omega) (hI1.2 m hm e)
      refine c_reg ?_
      refine asg (.int _ _) rfl ?_
      refine jt ?_
      refine c_cut (σ := UInt8) (fun d => ∀ k, k < 10 → (List.getD w i 0) = dch k → d.toNat = k) (fun d => [(16, .int .u8 (d.toNat : Int)), (12, .bool false)]) (fun d => [c99.seg w 5]) (fun d => []) [6, 7, 12, 16, 105, 106, 107, 108, 109, 110, 111, 112, 113, 114, 115, 116, 117, 118, 119, 120, 121, 122, 123, 124, 125, 126, 127, 128, 129, 130, 131, 132, 133] ?_ ?_
      · refine c_block ?_
        refine c_seq ?_
        refine c_reg ?_
        refine mv (.int _ _) rfl ?_
        refine equ8 (a := (List.getD w i 0)) (b := (95 : UInt8)) _ rfl rfl rfl ?_
        refine mv (.bool _) rfl ?_
        refine jsplit 109 rfl (fun h3 => ?_) (fun h3 => ?_)
        · replace h3 := of_decide_eq_true h3
          refine g_on rfl rfl rfl ?_
          refine mv (.bool _) rfl ?_
          refine pkt (.bool _) rfl rfl ?_
          refine asg (.bool _) rfl ?_
          refine jt ?_
          refine c_false rfl ?_
          refine c_seq ?_
          refine c_reg ?_
          refine mv (.int _ _) rfl ?_
          refine cmp _ rfl rfl rfl ?_
          refine mv (.bool _) rfl ?_
          refine jsplit 115 rfl (fun h4 => ?_) (fun h4 => ?_)
          · replace h4 := of_decide_eq_true h4
            refine g_on rfl rfl rfl ?_
            refine mv (.int _ _) rfl ?_
            refine g_on rfl rfl rfl ?_
            refine cmp _ rfl rfl rfl ?_
            refine pkt (.bool _) rfl rfl ?_
            refine asg (.bool _) rfl ?_
            refine jt ?_
            refine c_cond rfl (fun h5 => ?_) (fun h5 => ?_)
            · replace h5 := of_decide_eq_true h5
              refine c_reg ?_
              refine mv (.int _ _) rfl ?_
              refine subU8 (a := (List.getD w i 0)) (b := (48 : UInt8)) rfl rfl ?_
              refine asg (.int _ _) rfl ?_
              refine jn ?_
              refine e_in ?_
              exact e_lp ((List.getD w i 0) - (48 : UInt8)) (by repeat (first | exact out_self | refine out_hav (by kernel_rfl) ?_ | refine out_look (by kernel_rfl) ?_)) (fun k hk k2 => by have e1 := congrArg UInt8.toNat k2; have e2 : ((List.getD w i 0) ||| 32).toNat = (dch k ||| 32).toNat := (by rw [k2]); rcases dch_low k (by omega) with ⟨a1, a2, a3⟩ | ⟨a1, a2, a3, a4⟩ <;> first | (rw [k2]; exact a3) | (rw [k2]; exact a4) | (exfalso; omega)) trivial (⟨rfl, rfl, trivial⟩) rfl rfl rfl
            · replace h5 := of_decide_eq_false h5
              refine c_seq ?_
              refine c_reg ?_
              refine mv (.int _ _) rfl ?_
              refine cal (lower_ct (List.getD w i 0)) [] [0] [_] rfl rfl rfl (by kernel_rfl) impl_nil rfl ?_; rintro _ _ _ ⟨rfl, rfl, rfl⟩; refine ⟨trivial, ?_⟩
              refine cmp _ rfl rfl rfl ?_
              refine mv (.bool _) rfl ?_
              refine jsplit 125 rfl (fun h6 => ?_) (fun h6 => ?_)
              · replace h6 := of_decide_eq_true h6
                refine g_on rfl rfl rfl ?_
                refine mv (.int _ _) rfl ?_
                refine g_on rfl rfl rfl ?_
                refine cal (lower_ct (List.getD w i 0)) [] [0] [_] rfl rfl rfl (by kernel_rfl) impl_nil rfl ?_; rintro _ _ _ ⟨rfl, rfl, rfl⟩; refine ⟨trivial, ?_⟩
                refine g_on rfl rfl rfl ?_
                refine cmp _ rfl rfl rfl ?_
                refine pkt (.bool _) rfl rfl ?_
                refine asg (.bool _) rfl ?_
                refine jt ?_
                refine c_cond rfl (fun h7 => ?_) (fun h7 => ?_)
                · replace h7 := of_decide_eq_true h7
                  refine c_reg ?_
                  refine mv (.int _ _) rfl ?_
                  refine cal (lower_ct (List.getD w i 0)) [] [0] [_] rfl rfl rfl (by kernel_rfl) impl_nil rfl ?_; rintro _ _ _ ⟨rfl, rfl, rfl⟩; refine ⟨trivial, ?_⟩
                  refine subU8 (a := ((List.getD w i 0) ||| 32)) (b := (97 : UInt8)) rfl rfl ?_
                  refine addU8 (a := (((List.getD w i 0) ||| 32) - (97 : UInt8))) (b := (10 : UInt8)) rfl rfl ?_
                  refine asg (.int _ _) rfl ?_
                  refine jn ?_
                  refine e_in ?_
                  exact e_lp ((((List.getD w i 0) ||| 32) - (97 : UInt8)) + (10 : UInt8)) (by repeat (first | exact out_self | refine out_hav (by kernel_rfl) ?_ | refine out_look (by kernel_rfl) ?_)) (fun k hk k2 => by have e1 := congrArg UInt8.toNat k2; have e2 : ((List.getD w i 0) ||| 32).toNat = (dch k ||| 32).toNat := (by rw [k2]); rcases dch_low k (by omega) with ⟨a1, a2, a3⟩ | ⟨a1, a2, a3, a4⟩ <;> first | (rw [k2]; exact a3) | (rw [k2]; exact a4) | (exfalso; omega)) trivial (⟨rfl, rfl, trivial⟩) rfl rfl rfl
                · replace h7 := of_decide_eq_false h7
                  refine c_seq ?_
                  refine c_reg ?_
                  refine mki (v := (.int _ _)) rfl Tryd.underlying141 rfl ?_
                  refine asg (.int _ _) rfl ?_
                  refine asg (.iface _ _) rfl ?_
                  refine jt ?_
                  refine c_ret ?_
                  exact j_end (own0 := []) (ro0 := []) (.inl rfl) rfl (hr2 Tryd.results86 (rvt (v := (.int _ _)) rfl) (rvt (v := (.iface _ _)) rfl)) [] [0] [] [_] [] _ rfl rfl (by kernel_rfl) rfl impl_nil (.inr ⟨fun m hm e => by obtain ⟨k, k1, k2, k3, k4⟩ := HS m hm e; have e1 := congrArg UInt8.toNat k2; have e2 : ((List.getD w i 0) ||| 32).toNat = (dch k ||| 32).toNat := (by rw [k2]); rcases dch_low k (by omega) with ⟨a1, a2, a3⟩ | ⟨a1, a2, a3, a4⟩ <;> omega, (0 : UInt64), 2, .inr rfl, rfl, rfl, rfl⟩)
              · replace h6 := of_decide_eq_false h6
                refine g_off rfl rfl rfl rfl ?_
                refine g_off rfl rfl rfl rfl ?_
                refine g_off rfl rfl rfl rfl ?_
                refine pkf (.bool _) rfl rfl ?_
                refine asg (.bool _) rfl ?_
                refine jt ?_
                refine c_false rfl ?_
                refine c_seq ?_
                refine c_reg ?_
                refine mki (v := (.int _ _)) rfl Tryd.underlying141 rfl ?_
                refine asg (.int _ _) rfl ?_
                refine asg (.iface _ _) rfl ?_
                refine jt ?_
                refine c_ret ?_
                exact j_end (own0 := []) (ro0 := []) (.inl rfl) rfl (hr2 Tryd.results86 (rvt (v := (.int _ _)) rfl) (rvt (v := (.iface _ _)) rfl)) [] [0] [] [_] [] _ rfl rfl (by kernel_rfl) rfl impl_nil (.inr ⟨fun m hm e => by obtain ⟨k, k1, k2, k3, k4⟩ := HS m hm e; have e1 := congrArg UInt8.toNat k2; have e2 : ((List.getD w i 0) ||| 32).toNat = (dch k ||| 32).toNat := (by rw [k2]); rcases dch_low k (by omega) with ⟨a1, a2, a3⟩ | ⟨a1, a2, a3, a4⟩ <;> omega, (0 : UInt64), 2, .inr rfl, rfl, rfl, rfl⟩)
          · replace h4 := of_decide_eq_false h4
            refine g_off rfl rfl rfl rfl ?_
            refine g_off rfl rfl rfl rfl ?_
            refine pkf (.bool _) rfl rfl ?_
            refine asg (.bool _) rfl ?_
            refine jt ?_
            refine c_false rfl ?_
            refine c_seq ?_
            refine c_reg ?_
            refine mv (.int _ _) rfl ?_
            refine cal (lower_ct (List.getD w i 0)) [] [0] [_] rfl rfl rfl (by kernel_rfl) impl_nil rfl ?_; rintro _ _ _ ⟨rfl, rfl, rfl⟩; refine ⟨trivial, ?_⟩
            refine cmp _ rfl rfl rfl ?_
            refine mv (.bool _) rfl ?_
            refine jsplit 125 rfl (fun h8 => ?_) (fun h8 => ?_)
            · replace h8 := of_decide_eq_true h8
              refine g_on rfl rfl rfl ?_
              refine mv (.int _ _) rfl ?_
              refine g_on rfl rfl rfl ?_
              refine cal (lower_ct (List.getD w i 0)) [] [0] [_] rfl rfl rfl (by kernel_rfl) impl_nil rfl ?_; rintro _ _ _ ⟨rfl, rfl, rfl⟩; refine ⟨trivial, ?_⟩
              refine g_on rfl rfl rfl ?_
              refine cmp _ rfl rfl rfl ?_
              refine pkt (.bool _) rfl rfl ?_
              refine asg (.bool _) rfl ?_
              refine jt ?_
              refine c_cond rfl (fun h9 => ?_) (fun h9 => ?_)
              · replace h9 := of_decide_eq_true h9
                refine c_reg ?_
                refine mv (.int _ _) rfl ?_
                refine cal (lower_ct (List.getD w i 0)) [] [0] [_] rfl rfl rfl (by kernel_rfl) impl_nil rfl ?_; rintro _ _ _ ⟨rfl, rfl, rfl⟩; refine ⟨trivial, ?_⟩
                refine subU8 (a := ((List.getD w i 0) ||| 32)) (b := (97 : UInt8)) rfl rfl ?_
                refine addU8 (a := (((List.getD w i 0) ||| 32) - (97 : UInt8))) (b := (10 : UInt8)) rfl rfl ?_
                refine asg (.int _ _) rfl ?_
                refine jn ?_
                refine e_in ?_
                exact e_lp ((((List.getD w i 0) ||| 32) - (97 : UInt8)) + (10 : UInt8)) (by repeat (first | exact out_self | refine out_hav (by kernel_rfl) ?_ | refine out_look (by kernel_rfl) ?_)) (fun k hk k2 => by have e1 := congrArg UInt8.toNat k2; have e2 : ((List.getD w i 0) ||| 32).toNat = (dch k ||| 32).toNat := (by rw [k2]); rcases dch_low k (by omega) with ⟨a1, a2, a3⟩ | ⟨a1, a2, a3, a4⟩ <;> first | (rw [k2]; exact a3) | (rw [k2]; exact a4) | (exfalso; omega)) trivial (⟨rfl, rfl, trivial⟩) rfl rfl rfl
              · replace h9 := of_decide_eq_false h9
                refine c_seq ?_
                refine c_reg ?_
                refine mki (v := (.int _ _)) rfl Tryd.underlying141 rfl ?_
                refine asg (.int _ _) rfl ?_
                refine asg (.iface _ _) rfl ?_
                refine jt ?_
                refine c_ret ?_
                exact j_end (own0 := []) (ro0 := []) (.inl rfl) rfl (hr2 Tryd.results86 (rvt (v := (.int _ _)) rfl) (rvt (v := (.iface _ _)) rfl)) [] [0] [] [_] [] _ rfl rfl (by kernel_rfl) rfl impl_nil (.inr ⟨fun m hm e => by obtain ⟨k, k1, k2, k3, k4⟩ := HS m hm e; have e1 := congrArg UInt8.toNat k2; have e2 : ((List.getD w i 0) ||| 32).toNat = (dch k ||| 32).toNat := (by rw [k2]); rcases dch_low k (by omega) with ⟨a1, a2, a3⟩ | ⟨a1, a2, a3, a4⟩ <;> omega, (0 : UInt64), 2, .inr rfl, rfl, rfl, rfl⟩)
            · replace h8 := of_decide_eq_false h8
              refine g_off rfl rfl rfl rfl ?_
              refine g_off rfl rfl rfl rfl ?_
              refine g_off rfl rfl rfl rfl ?_
              refine pkf (.bool _) rfl rfl ?_
              refine asg (.bool _) rfl ?_
              refine jt ?_
              refine c_false rfl ?_
              refine c_seq ?_
              refine c_reg ?_
              refine mki (v := (.int _ _)) rfl Tryd.underlying141 rfl ?_
              refine asg (.int _ _) rfl ?_
              refine asg (.iface _ _) rfl ?_
              refine jt ?_
              refine c_ret ?_
              exact j_end (own0 := []) (ro0 := []) (.inl rfl) rfl (hr2 Tryd.results86 (rvt (v := (.int _ _)) rfl) (rvt (v := (.iface _ _)) rfl)) [] [0] [] [_] [] _ rfl rfl (by kernel_rfl) rfl impl_nil (.inr ⟨fun m hm e => by obtain ⟨k, k1, k2, k3, k4⟩ := HS m hm e; have e1 := congrArg UInt8.toNat k2; have e2 : ((List.getD w i 0) ||| 32).toNat = (dch k ||| 32).toNat := (by rw [k2]); rcases dch_low k (by omega) with ⟨a1, a2, a3⟩ | ⟨a1, a2, a3, a4⟩ <;> omega, (0 : UInt64), 2, .inr rfl, rfl, rfl, rfl⟩)
        · replace h3 := of_decide_eq_false h3
          refine g_off rfl rfl rfl rfl ?_
          refine pkf (.bool _) rfl rfl ?_
          refine asg (.bool _) rfl ?_
          refine jt ?_
          refine c_false rfl ?_
          refine c_seq ?_
          refine c_reg ?_
          refine mv (.int _ _) rfl ?_
          refine cmp _ rfl rfl rfl ?_
          refine mv (.bool _) rfl ?_
          refine jsplit 115 rfl (fun h10 => ?_) (fun h10 => ?_)
          · replace h10 := of_decide_eq_true h10
            refine g_on rfl rfl rfl ?_
            refine mv (.int _ _) rfl ?_
            refine g_on rfl rfl rfl ?_
            refine cmp _ rfl rfl rfl ?_
            refine pkt (.bool _) rfl rfl ?_
            refine asg (.bool _) rfl ?_
            refine jt ?_
            refine c_cond rfl (fun h11 => ?_) (fun h11 => ?_)
            · replace h11 := of_decide_eq_true h11
              refine c_reg ?_
              refine mv (.int _ _) rfl ?_
              refine subU8 (a := (List.getD w i 0)) (b := (48 : UInt8)) rfl rfl ?_
              refine asg (.int _ _) rfl ?_
              refine jn ?_
              refine e_in ?_
              exact e_lp ((List.getD w i 0) - (48 : UInt8)) (by repeat (first | exact out_self | refine out_hav (by kernel_rfl) ?_ | refine out_look (by kernel_rfl) ?_)) (fun k hk k2 => by have e1 := congrArg UInt8.toNat k2; have e2 : ((List.getD w i 0) ||| 32).toNat = (dch k ||| 32).toNat := (by rw [k2]); rcases dch_low k (by omega) with ⟨a1, a2, a3⟩ | ⟨a1, a2, a3, a4⟩ <;> first | (rw [k2]; exact a3) | (rw [k2]; exact a4) | (exfalso; omega)) trivial (⟨rfl, rfl, trivial⟩) rfl rfl rfl
            · replace h11 := of_decide_eq_false h11
              refine c_seq ?_
              refine c_reg ?_
              refine mv (.int _ _) rfl ?_
              refine cal (lower_ct (List.getD w i 0)) [] [0] [_] rfl rfl rfl (by kernel_rfl) impl_nil rfl ?_; rintro _ _ _ ⟨rfl, rfl, rfl⟩; refine ⟨trivial, ?_⟩
              refine cmp _ rfl rfl rfl ?_
              refine mv (.bool _) rfl ?_
              refine jsplit 125 rfl (fun h12 => ?_) (fun h12 => ?_)
              · replace h12 := of_decide_eq_true h12
                refine g_on rfl rfl rfl ?_
                refine mv (.int _ _) rfl ?_
                refine g_on rfl rfl rfl ?_
                refine cal (lower_ct (List.getD w i 0)) [] [0] [_] rfl rfl rfl (by kernel_rfl) impl_nil rfl ?_; rintro _ _ _ ⟨rfl, rfl, rfl⟩; refine ⟨trivial, ?_⟩
                refine g_on rfl rfl rfl ?_
                refine cmp _ rfl rfl rfl ?_
                refine pkt (.bool _) rfl rfl ?_
                refine asg (.bool _) rfl ?_
                refine jt ?_
                refine c_cond rfl (fun h13 => ?_) (fun h13 => ?_)
                · replace h13 := of_decide_eq_true h13
                  refine c_reg ?_
                  refine mv (.int _ _) rfl ?_
                  refine cal (lower_ct (List.getD w i 0)) [] [0] [_] rfl rfl rfl (by kernel_rfl) impl_nil rfl ?_; rintro _ _ _ ⟨rfl, rfl, rfl⟩; refine ⟨trivial, ?_⟩
                  refine subU8 (a := ((List.getD w i 0) ||| 32)) (b := (97 : UInt8)) rfl rfl ?_
                  refine addU8 (a := (((List.getD w i 0) ||| 32) - (97 : UInt8))) (b := (10 : UInt8)) rfl rfl ?_
                  refine asg (.int _ _) rfl ?_
                  refine jn ?_
                  refine e_in ?_
                  exact e_lp ((((List.getD w i 0) ||| 32) - (97 : UInt8)) + (10 : UInt8)) (by repeat (first | exact out_self | refine out_hav (by kernel_rfl) ?_ | refine out_look (by kernel_rfl) ?_)) (fun k hk k2 => by have e1 := congrArg UInt8.toNat k2; have e2 : ((List.getD w i 0) ||| 32).toNat = (dch k ||| 32).toNat := (by rw [k2]); rcases dch_low k (by omega) with ⟨a1, a2, a3⟩ | ⟨a1, a2, a3, a4⟩ <;> first | (rw [k2]; exact a3) | (rw [k2]; exact a4) | (exfalso; omega)) trivial (⟨rfl, rfl, trivial⟩) rfl rfl rfl
                · replace h13 := of_decide_eq_false h13
                  refine c_seq ?_
                  refine c_reg ?_
                  refine mki (v := (.int _ _)) rfl Tryd.underlying141 rfl ?_
                  refine asg (.int _ _) rfl ?_
                  refine asg (.iface _ _) rfl ?_
                  refine jt ?_
                  refine c_ret ?_
                  exact j_end (own0 := []) (ro0 := []) (.inl rfl) rfl (hr2 Tryd.results86 (rvt (v := (.int _ _)) rfl) (rvt (v := (.iface _ _)) rfl)) [] [0] [] [_] [] _ rfl rfl (by kernel_rfl) rfl impl_nil (.inr ⟨fun m hm e => by obtain ⟨k, k1, k2, k3, k4⟩ := HS m hm e; have e1 := congrArg UInt8.toNat k2; have e2 : ((List.getD w i 0) ||| 32).toNat = (dch k ||| 32).toNat := (by rw [k2]); rcases dch_low k (by omega) with ⟨a1, a2, a3⟩ | ⟨a1, a2, a3, a4⟩ <;> omega, (0 : UInt64), 2, .inr rfl, rfl, rfl, rfl⟩)
              · replace h12 := of_decide_eq_false h12
                refine g_off rfl rfl rfl rfl ?_
                refine g_off rfl rfl rfl rfl ?_
                refine g_off rfl rfl rfl rfl ?_
                refine pkf (.bool _) rfl rfl ?_
                refine asg (.bool _) rfl ?_
                refine jt ?_
                refine c_false rfl ?_
                refine c_seq ?_
                refine c_reg ?_
                refine mki (v := (.int _ _)) rfl Tryd.underlying141 rfl ?_
                refine asg (.int _ _) rfl ?_
                refine asg (.iface _ _) rfl ?_
                refine jt ?_
                refine c_ret ?_
                exact j_end (own0 := []) (ro0 := []) (.inl rfl) rfl (hr2 Tryd.results86 (rvt (v := (.int _ _)) rfl) (rvt (v := (.iface _ _)) rfl)) [] [0] [] [_] [] _ rfl rfl (by kernel_rfl) rfl impl_nil (.inr ⟨fun m hm e => by obtain ⟨k, k1, k2, k3, k4⟩ := HS m hm e; have e1 := congrArg UInt8.toNat k2; have e2 : ((List.getD w i 0) ||| 32).toNat = (dch k ||| 32).toNat := (by rw [k2]); rcases dch_low k (by omega) with ⟨a1, a2, a3⟩ | ⟨a1, a2, a3, a4⟩ <;> omega, (0 : UInt64), 2, .inr rfl, rfl, rfl, rfl⟩)
          · replace h10 := of_decide_eq_false h10
            refine g_off rfl rfl rfl rfl ?_
            refine g_off rfl rfl rfl rfl ?_
            refine pkf (.bool _) rfl rfl ?_
            refine asg (.bool _) rfl ?_
            refine jt ?_
            refine c_false rfl ?_
            refine c_seq ?_
            refine c_reg ?_
            refine mv (.int _ _) rfl ?_
            refine cal (lower_ct (List.getD w i 0)) [] [0] [_] rfl rfl rfl (by kernel_rfl) impl_nil rfl ?_; rintro _ _ _ ⟨rfl, rfl, rfl⟩; refine ⟨trivial, ?_⟩
            refine cmp _ rfl rfl rfl ?_
            refine mv (.bool _) rfl ?_
            refine jsplit 125 rfl (fun h14 => ?_) (fun h14 => ?_)
            · replace h14 := of_decide_eq_true h14
              refine g_on rfl rfl rfl ?_
              refine mv (.int _ _) rfl ?_
              refine g_on rfl rfl rfl ?_
              refine cal (lower_ct (List.getD w i 0)) [] [0] [_] rfl rfl rfl (by kernel_rfl) impl_nil rfl ?_; rintro _ _ _ ⟨rfl, rfl, rfl⟩; refine ⟨trivial, ?_⟩
              refine g_on rfl rfl rfl ?_
              refine cmp _ rfl rfl rfl ?_
              refine pkt (.bool _) rfl rfl ?_
              refine asg (.bool _) rfl ?_
              refine jt ?_
              refine c_cond rfl (fun h15 => ?_) (fun h15 => ?_)
              · replace h15 := of_decide_eq_true h15
                refine c_reg ?_
                refine mv (.int _ _) rfl ?_
                refine cal (lower_ct (List.getD w i 0)) [] [0] [_] rfl rfl rfl (by kernel_rfl) impl_nil rfl ?_; rintro _ _ _ ⟨rfl, rfl, rfl⟩; refine ⟨trivial, ?_⟩
                refine subU8 (a := ((List.getD w i 0) ||| 32)) (b := (97 : UInt8)) rfl rfl ?_
                refine addU8 (a := (((List.getD w i 0) ||| 32) - (97 : UInt8))) (b := (10 : UInt8)) rfl rfl ?_
                refine asg (.int _ _) rfl ?_
                refine jn ?_
                refine e_in ?_
                exact e_lp ((((List.getD w i 0) ||| 32) - (97 : UInt8)) + (10 : UInt8)) (by repeat (first | exact out_self | refine out_hav (by kernel_rfl) ?_ | refine out_look (by kernel_rfl) ?_)) (fun k hk k2 => by have e1 := congrArg UInt8.toNat k2; have e2 : ((List.getD w i 0) ||| 32).toNat = (dch k ||| 32).toNat := (by rw [k2]); rcases dch_low k (by omega) with ⟨a1, a2, a3⟩ | ⟨a1, a2, a3, a4⟩ <;> first | (rw [k2]; exact a3) | (rw [k2]; exact a4) | (exfalso; omega)) trivial (⟨rfl, rfl, trivial⟩) rfl rfl rfl
              · replace h15 := of_decide_eq_false h15
                refine c_seq ?_
                refine c_reg ?_
                refine mki (v := (.int _ _)) rfl Tryd.underlying141 rfl ?_
                refine asg (.int _ _) rfl ?_
                refine asg (.iface _ _) rfl ?_
                refine jt ?_
                refine c_ret ?_
                exact j_end (own0 := []) (ro0 := []) (.inl rfl) rfl (hr2 Tryd.results86 (rvt (v := (.int _ _)) rfl) (rvt (v := (.iface _ _)) rfl)) [] [0] [] [_] [] _ rfl rfl (by kernel_rfl) rfl impl_nil (.inr ⟨fun m hm e => by obtain ⟨k, k1, k2, k3, k4⟩ := HS m hm e; have e1 := congrArg UInt8.toNat k2; have e2 : ((List.getD w i 0) ||| 32).toNat = (dch k ||| 32).toNat := (by rw [k2]); rcases dch_low k (by omega) with ⟨a1, a2, a3⟩ | ⟨a1, a2, a3, a4⟩ <;> omega, (0 : UInt64), 2, .inr rfl, rfl, rfl, rfl⟩)
            · replace h14 := of_decide_eq_false h14
              refine g_off rfl rfl rfl rfl ?_
              refine g_off rfl rfl rfl rfl ?_
              refine g_off rfl rfl rfl rfl ?_
              refine pkf (.bool _) rfl rfl ?_
              refine asg (.bool _) rfl ?_
              refine jt ?_
              refine c_false rfl ?_
              refine c_seq ?_
              refine c_reg ?_
              refine mki (v := (.int _ _)) rfl Tryd.underlying141 rfl ?_
              refine asg (.int _ _) rfl ?_
              refine asg (.iface _ _) rfl ?_
              refine jt ?_
              refine c_ret ?_
              exact j_end (own0 := []) (ro0 := []) (.inl rfl) rfl (hr2 Tryd.results86 (rvt (v := (.int _ _)) rfl) (rvt (v := (.iface _ _)) rfl)) [] [0] [] [_] [] _ rfl rfl (by kernel_rfl) rfl impl_nil (.inr ⟨fun m hm e => by obtain ⟨k, k1, k2, k3, k4⟩ := HS m hm e; have e1 := congrArg UInt8.toNat k2; have e2 : ((List.getD w i 0) ||| 32).toNat = (dch k ||| 32).toNat := (by rw [k2]); rcases dch_low k (by omega) with ⟨a1, a2, a3⟩ | ⟨a1, a2, a3, a4⟩ <;> omega, (0 : UInt64), 2, .inr rfl, rfl, rfl, rfl⟩)
      · rintro d g hC1
        try dsimp only at hC1 ⊢
        refine c_seq ?_
        refine c_seq ?_
        refine c_reg ?_
        refine mv (.int _ _) rfl ?_
        refine mv (.int _ _) rfl ?_
        refine cvI 10 rfl Tryd.underlying3 Tryd.underlying5 (by kernel_rfl) ?_
        refine cmp _ rfl rfl rfl ?_
        refine jt ?_
        refine c_cond rfl (fun h16 => ?_) (fun h16 => ?_)
        · replace h16 := of_decide_eq_true h16
          refine c_seq ?_
          refine c_reg ?_
          refine mki (v := (.int _ _)) rfl Tryd.underlying141 rfl ?_
          refine asg (.int _ _) rfl ?_
          refine asg (.iface _ _) rfl ?_
          refine jt ?_
          refine c_ret ?_
          exact j_end (own0 := []) (ro0 := []) (.inl rfl) rfl (hr2 Tryd.results86 (rvt (v := (.int _ _)) rfl) (rvt (v := (.iface _ _)) rfl)) [] [0] [] [_] [] _ rfl rfl (by kernel_rfl) rfl impl_nil (.inr ⟨fun m hm e => by obtain ⟨k, k1, k2, k3, k4⟩ := HS m hm e; have h9 := hC1 k k1 k2; omega, (0 : UInt64), 2, .inr rfl, rfl, rfl, rfl⟩)
        · replace h16 := of_decide_eq_false h16
          refine c_skip ?_
          refine e_then ?_
          refine c_seq ?_
          refine c_seq ?_
          refine c_reg ?_
          refine mv (.int _ _) rfl ?_
          refine mv (.int _ _) rfl ?_
          refine cmp _ rfl rfl rfl ?_
          refine jt ?_
          refine c_cond rfl (fun h17 => ?_) (fun h17 => ?_)
          · replace h17 := of_decide_eq_true h17
            refine c_seq ?_
            refine c_reg ?_
            refine mv (.int _ _) rfl ?_
            refine mki (v := (.int _ _)) rfl Tryd.underlying141 rfl ?_
            refine asg (.int _ _) rfl ?_
            refine asg (.iface _ _) rfl ?_
            refine jt ?_
            refine c_ret ?_
            exact j_end (own0 := []) (ro0 := []) (.inl rfl) rfl (hr2 Tryd.results86 (rvt (v := (.int _ _)) rfl) (rvt (v := (.iface _ _)) rfl)) [] [0] [] [_] [] _ rfl rfl (by kernel_rfl) rfl impl_nil (.inr ⟨fun m hm e => by obtain ⟨k, k1, k2, k3, k4⟩ := HS m hm e; have h9 := hC1 k k1 k2; omega, (18446744073709551615 : UInt64), 1, .inl ⟨rfl, rfl⟩, rfl, rfl, rfl⟩)
          · replace h17 := of_decide_eq_false h17
            refine c_skip ?_
            refine e_then ?_
            refine c_seq ?_
            refine c_reg ?_
            refine mv (.int _ _) rfl ?_
            refine mv (.int _ _) rfl ?_
            refine cvI 10 rfl Tryd.underlying3 Tryd.underlying23 (by kernel_rfl) ?_
            refine mulU64 (a := n) (b := (10 : UInt64)) rfl rfl ?_
            refine asg (.int _ _) rfl ?_
            refine jt ?_
            refine c_seq ?_
            refine c_reg ?_
            refine mv (.int _ _) rfl ?_
            refine mv (.int _ _) rfl ?_
            refine cvNU64 (n := d.toNat) rfl Tryd.underlying5 Tryd.underlying23 ?_
            refine addU64 (a := (n * (10 : UInt64))) (b := (UInt64.ofNat d.toNat)) rfl rfl ?_
            refine asg (.int _ _) rfl ?_
            refine jt ?_
            refine c_seq ?_
            refine c_seq ?_
            have HD := d.toNat_lt
            have HM : (n * 10).toNat = n.toNat * 10 := by rw [UInt64.toNat_mul]; show n.toNat * 10 % 2 ^ 64 = _; omega
            have HN : (n * 10 + UInt64.ofNat d.toNat).toNat = (n.toNat * 10 + d.toNat) % 18446744073709551616 := by rw [UInt64.toNat_add, HM, UInt64.toNat_ofNat', Nat.mod_eq_of_lt (a := d.toNat) (by omega)]
            refine c_reg ?_
            refine mv (.int _ _) rfl ?_
            refine mv (.int _ _) rfl ?_
            refine cmp _ rfl rfl rfl ?_
            refine mv (.bool _) rfl ?_
            refine jsplit 155 rfl (fun h18 => ?_) (fun h18 => ?_)
            · replace h18 := of_decide_eq_true h18
              refine g_off rfl rfl rfl rfl ?_
              refine g_off rfl rfl rfl rfl ?_
              refine g_off rfl rfl rfl rfl ?_
              refine pkt (.bool _) rfl rfl ?_
              refine jt ?_
              refine c_true rfl ?_
              refine c_seq ?_
              refine c_reg ?_
              refine mv (.int _ _) rfl ?_
              refine mki (v := (.int _ _)) rfl Tryd.underlying141 rfl ?_
              refine asg (.int _ _) rfl ?_
              refine asg (.iface _ _) rfl ?_
              refine jt ?_
              refine c_ret ?_
              exact j_end (own0 := []) (ro0 := []) (.inl rfl) rfl (hr2 Tryd.results86 (rvt (v := (.int _ _)) rfl) (rvt (v := (.iface _ _)) rfl)) [] [0] [] [_] [] _ rfl rfl (by kernel_rfl) rfl impl_nil (.inr ⟨fun m hm e => by obtain ⟨k, k1, k2, k3, k4⟩ := HS m hm e; have h9 := hC1 k k1 k2; omega, (18446744073709551615 : UInt64), 1, .inl ⟨rfl, rfl⟩, rfl, rfl, rfl⟩)
            · replace h18 := of_decide_eq_false h18
              refine g_on rfl rfl rfl ?_
              refine mv (.int _ _) rfl ?_
              refine g_on rfl rfl rfl ?_
              refine mv (.int _ _) rfl ?_
              refine g_on rfl rfl rfl ?_
              refine cmp _ rfl rfl rfl ?_
              refine pkf (.bool _) rfl rfl ?_
              refine jt ?_
              refine c_cond rfl (fun h19 => ?_) (fun h19 => ?_)
              · replace h19 := of_decide_eq_true h19
                refine c_seq ?_
                refine c_reg ?_
                refine mv (.int _ _) rfl ?_
                refine mki (v := (.int _ _)) rfl Tryd.underlying141 rfl ?_
                refine asg (.int _ _) rfl ?_
                refine asg (.iface _ _) rfl ?_
                refine jt ?_
                refine c_ret ?_
                exact j_end (own0 := []) (ro0 := []) (.inl rfl) rfl (hr2 Tryd.results86 (rvt (v := (.int _ _)) rfl) (rvt (v := (.iface _ _)) rfl)) [] [0] [] [_] [] _ rfl rfl (by kernel_rfl) rfl impl_nil (.inr ⟨fun m hm e => by obtain ⟨k, k1, k2, k3, k4⟩ := HS m hm e; have h9 := hC1 k k1 k2; omega, (18446744073709551615 : UInt64), 1, .inl ⟨rfl, rfl⟩, rfl, rfl, rfl⟩)
              · replace h19 := of_decide_eq_false h19
                refine c_skip ?_
                refine e_then ?_
                refine c_reg ?_
                refine mv (.int _ _) rfl ?_
                refine asg (.int _ _) rfl ?_
                refine jn ?_
                refine e_in ?_
                refine e_then ?_
                refine c_reg ?_
                refine addi rfl rfl rfl (by omega) ?_
                refine mv (.int _ _) rfl ?_
                refine jn ?_
                exact e_lp (i + 1, ((n * (10 : UInt64)) + (UInt64.ofNat d.toNat))) (by repeat (first | exact out_self | refine out_hav (by kernel_rfl) ?_ | refine out_look (by kernel_rfl) ?_)) (⟨by omega, fun m hm e => by obtain ⟨k, k1, k2, k3, k4⟩ := HS m hm e; have h9 := hC1 k k1 k2; rw [← k3, HN]; omega⟩) (by show w.length - (i + 1) < w.length - i; omega) (⟨rfl, rfl, rfl, trivial⟩) rfl rfl rfl
    · replace h2 := of_decide_eq_false h2
      refine c_exit rfl ?_
      refine e_then ?_
      refine c_seq ?_
      refine c_seq ?_
      refine c_reg ?_
      refine mv (.bool _) rfl ?_
      refine mv (.bool _) rfl ?_
      refine g_off rfl rfl rfl rfl ?_
      refine g_off rfl rfl rfl rfl ?_
      refine g_off rfl rfl rfl rfl ?_
      refine pkf (.bool _) rfl rfl ?_
      refine jt ?_
      refine c_false rfl ?_
      refine c_skip ?_
      refine e_then ?_
      refine c_seq ?_
      refine c_reg ?_
      refine mv (.int _ _) rfl ?_
      refine asg (.int _ _) rfl ?_
      refine asg .nilIface rfl ?_
      refine jt ?_
      refine c_ret ?_
      exact j_end (own0 := []) (ro0 := []) (.inl rfl) rfl (hr2 Tryd.results86 (rvt (v := (.int _ _)) rfl) (rvt (v := .nilIface) rfl)) [] [0] [] [_] [] _ rfl rfl (by kernel_rfl) rfl impl_nil (.inl ⟨_, fun m hm e => by have h9 := hI1.2 m hm e; rw [show w.length - i = 0 by omega, Nat.pow_zero, Nat.div_one] at h9; exact h9, rfl, rfl, rfl⟩)
set_option maxRecDepth 20000 in
set_option maxHeartbeats 4000000 in
theorem iParseUint16_ct (w : Str) (hw : w.length ≤ 9223372036854775806) : Ct Tryd.prog 86 [strV w, .int .i64 16, .int .i64 32] [] [] (fun v o r => (∃ n : UInt64, (∀ m, m ≤ 4294967295 → w = fmtN 16 m → n.toNat = m) ∧ v = .tuple #[.int .u64 (n.toNat : Int), .nilIface] ∧ o = [] ∧ r = []) ∨ ((∀ m, m ≤ 4294967295 → w ≠ fmtN 16 m) ∧ ∃ (n : UInt64) (c : Int), (c = 1 ∧ n.toNat = 4294967295 ∨ c = 2) ∧ v = .tuple #[.int .u64 (n.toNat : Int), .iface 141 (.int .i64 c)] ∧ o = [] ∧ r = [])) := by
  refine ct_enter Tryd.func86 rfl Tryd.ntmps86 (by kernel_rfl) rfl fun w0 => ?_
  refine c_seq ?_
  refine c_reg ?_
  refine asg (.int _ _) rfl ?_
  refine asg .nilIface rfl ?_
  refine jt ?_
  refine c_seq ?_
  refine c_seq ?_
  refine c_reg ?_
  refine mv (.string _) rfl ?_
  refine scmp (a := w) (b := ([] : Str)) _ rfl rfl Tryd.underlying9 rfl ?_
  refine jt ?_
  refine c_cond rfl (fun h1 => ?_) (fun h1 => ?_)
  · replace h1 := of_decide_eq_true h1
    refine c_seq ?_
    refine c_reg ?_
    refine mki (v := (.int _ _)) rfl Tryd.underlying141 rfl ?_
    refine asg (.int _ _) rfl ?_
    refine asg (.iface _ _) rfl ?_
    refine jt ?_
    refine c_ret ?_
    exact j_end (own0 := []) (ro0 := []) (.inl rfl) rfl (hr2 Tryd.results86 (rvt (v := (.int _ _)) rfl) (rvt (v := (.iface _ _)) rfl)) [] [] [] [] [] _ rfl rfl (by kernel_rfl) rfl impl_nil (.inr ⟨fun m hm e => by exact fmt_ne (e.symm.trans h1), (0 : UInt64), 2, .inr rfl, rfl, rfl, rfl⟩)
  · replace h1 := of_decide_eq_false h1
    refine c_skip ?_
    refine e_then ?_
    refine c_seq ?_
    refine c_reg ?_
    refine mv (.int _ _) rfl ?_
    refine cmp false rfl rfl rfl ?_
    refine asg (.bool _) rfl ?_
    refine jt ?_
    refine c_seq ?_
    refine c_reg ?_
    refine mv (.string _) rfl ?_
    refine asg (.string _) rfl ?_
    refine jt ?_
    refine c_seq ?_
    refine c_block ?_
    refine c_seq ?_
    refine c_reg ?_
    refine mv (.int _ _) rfl ?_
    refine cmp true rfl rfl rfl ?_
    refine mv (.bool _) rfl ?_
    refine g_on rfl rfl rfl ?_
    refine mv (.int _ _) rfl ?_
    refine g_on rfl rfl rfl ?_
    refine cmp true rfl rfl rfl ?_
    refine pkt (.bool _) rfl rfl ?_
    refine asg (.bool _) rfl ?_
    refine jt ?_
    refine c_true rfl ?_
    refine c_skip ?_
    refine e_in ?_
    refine e_then ?_
    refine c_seq ?_
    refine c_seq ?_
    refine c_reg ?_
    refine mv (.int _ _) rfl ?_
    refine cmp false rfl rfl rfl ?_
    refine jt ?_
    refine c_false rfl ?_
    refine c_seq ?_
    refine c_reg ?_
    refine mv (.int _ _) rfl ?_
    refine cmp false rfl rfl rfl ?_
    refine mv (.bool _) rfl ?_
    refine g_on rfl rfl rfl ?_
    refine mv (.int _ _) rfl ?_
    refine g_on rfl rfl rfl ?_
    refine cmp false rfl rfl rfl ?_
    refine pkf (.bool _) rfl rfl ?_
    refine jt ?_
    refine c_false rfl ?_
    refine c_skip ?_
    refine e_then ?_
    refine c_seq ?_
    refine c_reg ?_
    refine asg (.int _ _) rfl ?_
    refine jt ?_
    refine c_seq ?_
    refine c_seq ?_
    refine c_reg ?_
    refine mv (.int _ _) rfl ?_
    refine jt ?_
    refine c_block ?_
    refine c_seq ?_
    refine c_reg ?_
    refine cmp false rfl rfl rfl ?_
    refine asg (.bool _) rfl ?_
    refine jt ?_
    refine c_false rfl ?_
    refine c_seq ?_
    refine c_reg ?_
    refine cmp true rfl rfl rfl ?_
    refine asg (.bool _) rfl ?_
    refine jt ?_
    refine c_true rfl ?_
    refine c_reg ?_
    refine asg (.int _ _) rfl ?_
    refine jn ?_
    refine e_in ?_
    refine e_then ?_
    refine c_seq ?_
    refine c_reg ?_
    refine mv (.int _ _) rfl ?_
    refine cvI 32 rfl Tryd.underlying3 Tryd.underlying87 (by kernel_rfl) ?_
    refine bopI (.int .u64 4294967296) rfl rfl (by kernel_rfl) ?_
    refine bopI (.int .u64 4294967295) rfl rfl (by kernel_rfl) ?_
    refine asg (.int _ _) rfl ?_
    refine jt ?_
    refine c_seq ?_
    refine c_reg ?_
    refine asg (.bool _) rfl ?_
    refine jt ?_
    refine c_seq ?_
    refine c_reg ?_
    refine asg (.int _ _) rfl ?_
    refine jt ?_
    refine c_seq ?_
    refine c_seq ?_
    refine c_reg ?_
    refine mv (.string _) rfl ?_
    refine cvSB (s := w) rfl Tryd.underlying9 Tryd.underlying50 Tryd.underlying5 fun c99 hc99 => ⟨trivial, ?_⟩
    refine lenS rfl Tryd.underlying50 ?_
    refine mv (.int _ _) rfl ?_
    refine jt ?_
    refine c_block ?_
    refine c_loop (σ := Nat × UInt64) (fun (i, n) => i ≤ w.length ∧ ∀ m, m ≤ 4294967295 → w = fmtN 16 m → n.toNat = m / 16 ^ (w.length - i)) (fun (i, n) => w.length - i) (fun (i, n) => [(101, .int .i64 (i : Int)), (13, .int .u64 (n.toNat : Int)), (12, .bool false)]) (fun (i, n) => [c99.seg w 5]) (fun (i, n) => []) [6, 7, 12, 13, 15, 16, 17, 101, 102, 103, 104, 105, 106, 107, 108, 109, 110, 111, 112, 113, 114, 115, 116, 117, 118, 119, 120, 121, 122, 123, 124, 125, 126, 127, 128, 129, 130, 131, 132, 133, 134, 135, 136, 137, 138, 139, 140, 141, 142, 143, 144, 145, 146, 147, 148, 149, 150, 151, 152, 153, 154, 155, 156, 157, 158, 159, 160, 161, 162, 163] (0, 0) (⟨by omega, fun m hm e => pu_start (by omega) e (by omega)⟩) ⟨rfl, rfl, rfl, trivial⟩ rfl rfl ?_
    rintro ⟨i, n⟩ g1 hI1
    try dsimp only at hI1 ⊢
    refine c_seq ?_
    refine c_reg ?_
    refine cmp _ rfl rfl rfl ?_
    refine jt ?_
    refine c_seq ?_
    refine c_cond rfl (fun h2 => ?_) (fun h2 => ?_)
    · replace h2 := of_decide_eq_true h2
      refine c_skip ?_
      refine e_then ?_
      refine c_seq ?_
      refine c_block ?_
      refine c_seq ?_
      refine c_reg ?_
      refine ixs ((c99).vs) w i (Ow.vs_ok hc99) rfl rfl rfl Tryd.underlying50 ty5.sz rfl (by first | omega | (simp; done) | (simp; omega) | (simp at *; omega)) ?_
      refine ldsoG 0 (List.getD w i 0) hc99 rfl rfl rfl rfl (getD_some (by first | omega | (simp; done) | (simp; omega) | (simp at *; omega))) ty5 ?_
      refine asg (.int _ _) rfl ?_
      refine jt ?_
      refine c_seq ?_
      have HS := fun m (hm : m ≤ 4294967295) (e : w = fmtN 16 m) => pu_step (b := 16) (by omega) e hm (show i < w.length by omega) (hI1.2 m hm e)
      refine c_reg ?_
      refine asg (.int _ _) rfl ?_
      refine jt ?_
      refine c_cut (σ := UInt8) (fun d => ∀ k, k < 16 → (List.getD w i 0) = dch k → d.toNat = k) (fun d => [(16, .int .u8 (d.toNat : Int)), (12, .bool false)]) (fun d => [c99.seg w 5]) (fun d => []) [6, 7, 12, 16, 105, 106, 107, 108, 109, 110, 111, 112, 113, 114, 115, 116, 117, 118, 119, 120, 121, 122, 123, 124, 125, 126, 127, 128, 129, 130, 131, 132, 133] ?_ ?_
      · refine c_block ?_
        refine c_seq ?_
        refine c_reg ?_
        refine mv (.int _ _) rfl ?_
        refine equ8 (a := (List.getD w i 0)) (b := (95 : UInt8)) _ rfl rfl rfl ?_
        refine mv (.bool _) rfl ?_
        refine jsplit 109 rfl (fun h3 => ?_) (fun h3 => ?_)
        · replace h3 := of_decide_eq_true h3
          refine g_on rfl rfl rfl ?_
          refine mv (.bool _) rfl ?_
          refine pkt (.bool _) rfl rfl ?_
          refine asg (.bool _) rfl ?_
          refine jt ?_
          refine c_false rfl ?_
          refine c_seq ?_
          refine c_reg ?_
          refine mv (.int _ _) rfl ?_
          refine cmp _ rfl rfl rfl ?_
          refine mv (.bool _) rfl ?_
          refine jsplit 115 rfl (fun h4 => ?_) (fun h4 => ?_)
          · replace h4 := of_decide_eq_true h4
            refine g_on rfl rfl rfl ?_
            refine mv (.int _ _) rfl ?_
            refine g_on rfl rfl rfl ?_
            refine cmp _ rfl rfl rfl ?_
            refine pkt (.bool _) rfl rfl ?_
            refine asg (.bool _) rfl ?_
            refine jt ?_
            refine c_cond rfl (fun h5 => ?_) (fun h5 => ?_)
            · replace h5 := of_decide_eq_true h5
              refine c_reg ?_
              refine mv (.int _ _) rfl ?_
              refine subU8 (a := (List.getD w i 0)) (b := (48 : UInt8)) rfl rfl ?_
              refine asg (.int _ _) rfl ?_
              refine jn ?_
              refine e_in ?_
              exact e_lp ((List.getD w i 0) - (48 : UInt8)) (by repeat (first | exact out_self | refine out_hav (by kernel_rfl) ?_ | refine out_look (by kernel_rfl) ?_)) (fun k hk k2 => by have e1 := congrArg UInt8.toNat k2; have e2 : ((List.getD w i 0) ||| 32).toNat = (dch k ||| 32).toNat := (by rw [k2]); rcases dch_low k (by omega) with ⟨a1, a2, a3⟩ | ⟨a1, a2, a3, a4⟩ <;> first | (rw [k2]; exact a3) | (rw [k2]; exact a4) | (exfalso; omega)) trivial (⟨rfl, rfl, trivial⟩) rfl rfl rfl
            · replace h5 := of_decide_eq_false h5
              refine c_seq ?_
              refine c_reg ?_
              refine mv (.int _ _) rfl ?_
              refine cal (lower_ct (List.getD w i 0)) [] [0] [_] rfl rfl rfl (by kernel_rfl) impl_nil rfl ?_; rintro _ _ _ ⟨rfl, rfl, rfl⟩; refine ⟨trivial, ?_⟩
              refine cmp _ rfl rfl rfl ?_
              refine mv (.bool _) rfl ?_
              refine jsplit 125 rfl (fun h6 => ?_) (fun h6 => ?_)
              · replace h6 := of_decide_eq_true h6
                refine g_on rfl rfl rfl ?_
                refine mv (.int _ _) rfl ?_
                refine g_on rfl rfl rfl ?_
                refine cal (lower_ct (List.getD w i 0)) [] [0] [_] rfl rfl rfl (by kernel_rfl) impl_nil rfl ?_; rintro _ _ _ ⟨rfl, rfl, rfl⟩; refine ⟨trivial, ?_⟩
                refine g_on rfl rfl rfl ?_
                refine cmp _ rfl rfl rfl ?_
                refine pkt (.bool _) rfl rfl ?_
                refine asg (.bool _) rfl ?_
                refine jt ?_
                refine c_cond rfl (fun h7 => ?_) (fun h7 => ?_)
                · replace h7 := of_decide_eq_true h7
                  refine c_reg ?_
                  refine mv (.int _ _) rfl ?_
                  refine cal (lower_ct (List.getD w i 0)) [] [0] [_] rfl rfl rfl (by kernel_rfl) impl_nil rfl ?_; rintro _ _ _ ⟨rfl, rfl, rfl⟩; refine ⟨trivial, ?_⟩
                  refine subU8 (a := ((List.getD w i 0) ||| 32)) (b := (97 : UInt8)) rfl rfl ?_
                  refine addU8 (a := (((List.getD w i 0) ||| 32) - (97 : UInt8))) (b := (10 : UInt8)) rfl rfl ?_
                  refine asg (.int _ _) rfl ?_
                  refine jn ?_
                  refine e_in ?_
                  exact e_lp ((((List.getD w i 0) ||| 32) - (97 : UInt8)) + (10 : UInt8)) (by repeat (first | exact out_self | refine out_hav (by kernel_rfl) ?_ | refine out_look (by kernel_rfl) ?_)) (fun k hk k2 => by have e1 := congrArg UInt8.toNat k2; have e2 : ((List.getD w i 0) ||| 32).toNat = (dch k ||| 32).toNat := (by rw [k2]); rcases dch_low k (by omega) with ⟨a1, a2, a3⟩ | ⟨a1, a2, a3, a4⟩ <;> first | (rw [k2]; exact a3) | (rw [k2]; exact a4) | (exfalso; omega)) trivial (⟨rfl, rfl, trivial⟩) rfl rfl rfl
                · replace h7 := of_decide_eq_false h7
                  refine c_seq ?_
                  refine c_reg ?_
                  refine mki (v := (.int _ _)) rfl Tryd.underlying141 rfl ?_
                  refine asg (.int _ _) rfl ?_
                  refine asg (.iface _ _) rfl ?_
                  refine jt ?_
                  refine c_ret ?_
                  exact j_end (own0 := []) (ro0 := []) (.inl rfl) rfl (hr2 Tryd.results86 (rvt (v := (.int _ _)) rfl) (rvt (v := (.iface _ _)) rfl)) [] [0] [] [_] [] _ rfl rfl (by kernel_rfl) rfl impl_nil (.inr ⟨fun m hm e => by obtain ⟨k, k1, k2, k3, k4⟩ := HS m hm e; have e1 := congrArg UInt8.toNat k2; have e2 : ((List.getD w i 0) ||| 32).toNat = (dch k ||| 32).toNat := (by rw [k2]); rcases dch_low k (by omega) with ⟨a1, a2, a3⟩ | ⟨a1, a2, a3, a4⟩ <;> omega, (0 : UInt64), 2, .inr rfl, rfl, rfl, rfl⟩)
              · replace h6 := of_decide_eq_false h6
                refine g_off rfl rfl rfl rfl ?_
                refine g_off rfl rfl rfl rfl ?_
                refine g_off rfl rfl rfl rfl ?_
                refine pkf (.bool _) rfl rfl ?_
                refine asg (.bool _) rfl ?_
                refine jt ?_
                refine c_false rfl ?_
                refine c_seq ?_
                refine c_reg ?_
                refine mki (v := (.int _ _)) rfl Tryd.underlying141 rfl ?_
                refine asg (.int _ _) rfl ?_
                refine asg (.iface _ _) rfl ?_
                refine jt ?_
                refine c_ret ?_
                exact j_end (own0 := []) (ro0 := []) (.inl rfl) rfl (hr2 Tryd.results86 (rvt (v := (.int _ _)) rfl) (rvt (v := (.iface _ _)) rfl)) [] [0] [] [_] [] _ rfl rfl (by kernel_rfl) rfl impl_nil (.inr ⟨fun m hm e => by obtain ⟨k, k1, k2, k3, k4⟩ := HS m hm e; have e1 := congrArg UInt8.toNat k2; have e2 : ((List.getD w i 0) ||| 32).toNat = (dch k ||| 32).toNat := (by rw [k2]); rcases dch_low k (by omega) with ⟨a1, a2, a3⟩ | ⟨a1, a2, a3, a4⟩ <;> omega, (0 : UInt64), 2, .inr rfl, rfl, rfl, rfl⟩)
          · replace h4 := of_decide_eq_false h4
            refine g_off rfl rfl rfl rfl ?_
            refine g_off rfl rfl rfl rfl ?_
            refine pkf (.bool _) rfl rfl ?_
            refine asg (.bool _) rfl ?_
            refine jt ?_
            refine c_false rfl ?_
            refine c_seq ?_
            refine c_reg ?_
            refine mv (.int _ _) rfl ?_
            refine cal (lower_ct (List.getD w i 0)) [] [0] [_] rfl rfl rfl (by kernel_rfl) impl_nil rfl ?_; rintro _ _ _ ⟨rfl, rfl, rfl⟩; refine ⟨trivial, ?_⟩
            refine cmp _ rfl rfl rfl ?_
            refine mv (.bool _) rfl ?_
            refine jsplit 125 rfl (fun h8 => ?_) (fun h8 => ?_)
            · replace h8 := of_decide_eq_true h8
              refine g_on rfl rfl rfl ?_
              refine mv (.int _ _) rfl ?_
              refine g_on rfl rfl rfl ?_
              refine cal (lower_ct (List.getD w i 0)) [] [0] [_] rfl rfl rfl (by kernel_rfl) impl_nil rfl ?_; rintro _ _ _ ⟨rfl, rfl, rfl⟩; refine ⟨trivial, ?_⟩
              refine g_on rfl rfl rfl ?_
              refine cmp _ rfl rfl rfl ?_
              refine pkt (.bool _) rfl rfl ?_
              refine asg (.bool _) rfl ?_
              refine jt ?_
              refine c_cond rfl (fun h9 => ?_) (fun h9 => ?_)
              · replace h9 := of_decide_eq_true h9
                refine c_reg ?_
                refine mv (.int _ _) rfl ?_
                refine cal (lower_ct (List.getD w i 0)) [] [0] [_] rfl rfl rfl (by kernel_rfl) impl_nil rfl ?_; rintro _ _ _ ⟨rfl, rfl, rfl⟩; refine ⟨trivial, ?_⟩
                refine subU8 (a := ((List.getD w i 0) ||| 32)) (b := (97 : UInt8)) rfl rfl ?_
                refine addU8 (a := (((List.getD w i 0) ||| 32) - (97 : UInt8))) (b := (10 : UInt8)) rfl rfl ?_
                refine asg (.int _ _) rfl ?_
                refine jn ?_
                refine e_in ?_
                exact e_lp ((((List.getD w i 0) ||| 32) - (97 : UInt8)) + (10 : UInt8)) (by repeat (first | exact out_self | refine out_hav (by kernel_rfl) ?_ | refine out_look (by kernel_rfl) ?_)) (fun k hk k2 => by have e1 := congrArg UInt8.toNat k2; have e2 : ((List.getD w i 0) ||| 32).toNat = (dch k ||| 32).toNat := (by rw [k2]); rcases dch_low k (by omega) with ⟨a1, a2, a3⟩ | ⟨a1, a2, a3, a4⟩ <;> first | (rw [k2]; exact a3) | (rw [k2]; exact a4) | (exfalso; omega)) trivial (⟨rfl, rfl, trivial⟩) rfl rfl rfl
              · replace h9 := of_decide_eq_false h9
                refine c_seq ?_
                refine c_reg ?_
                refine mki (v := (.int _ _)) rfl Tryd.underlying141 rfl ?_
                refine asg (.int _ _) rfl ?_
                refine asg (.iface _ _) rfl ?_
                refine jt ?_
                refine c_ret ?_
                exact j_end (own0 := []) (ro0 := []) (.inl rfl) rfl (hr2 Tryd.results86 (rvt (v := (.int _ _)) rfl) (rvt (v := (.iface _ _)) rfl)) [] [0] [] [_] [] _ rfl rfl (by kernel_rfl) rfl impl_nil (.inr ⟨fun m hm e => by obtain ⟨k, k1, k2, k3, k4⟩ := HS m hm e; have e1 := congrArg UInt8.toNat k2; have e2 : ((List.getD w i 0) ||| 32).toNat = (dch k ||| 32).toNat := (by rw [k2]); rcases dch_low k (by omega) with ⟨a1, a2, a3⟩ | ⟨a1, a2, a3, a4⟩ <;> omega, (0 : UInt64), 2, .inr rfl, rfl, rfl, rfl⟩)
            · replace h8 := of_decide_eq_false h8
              refine g_off rfl rfl rfl rfl ?_
              refine g_off rfl rfl rfl rfl ?_
              refine g_off rfl rfl rfl rfl ?_
              refine pkf (.bool _) rfl rfl ?_
              refine asg (.bool _) rfl ?_
              refine jt ?_
              refine c_false rfl ?_
              refine c_seq ?_
              refine c_reg ?_
              refine mki (v := (.int _ _)) rfl Tryd.underlying141 rfl ?_
              refine asg (.int _ _) rfl ?_
              refine asg (.iface _ _) rfl ?_
              refine jt ?_
              refine c_ret ?_
              exact j_end (own0 := []) (ro0 := []) (.inl rfl) rfl (hr2 Tryd.results86 (rvt (v := (.int _ _)) rfl) (rvt (v := (.iface _ _)) rfl)) [] [0] [] [_] [] _ rfl rfl (by kernel_rfl) rfl impl_nil (.inr ⟨fun m hm e => by obtain ⟨k, k1, k2, k3, k4⟩ := HS m hm e; have e1 := congrArg UInt8.toNat k2; have e2 : ((List.getD w i 0) ||| 32).toNat = (dch k ||| 32).toNat := (by rw [k2]); rcases dch_low k (by omega) with ⟨a1, a2, a3⟩ | ⟨a1, a2, a3, a4⟩ <;> omega, (0 : UInt64), 2, .inr rfl, rfl, rfl, rfl⟩)
        · replace h3 := of_decide_eq_false h3
          refine g_off rfl rfl rfl rfl ?_
          refine pkf (.bool _) rfl rfl ?_
          refine asg (.bool _) rfl ?_
          refine jt ?_
          refine c_false rfl ?_
          refine c_seq ?_
          refine c_reg ?_
          refine mv (.int _ _) rfl ?_
          refine cmp _ rfl rfl rfl ?_
          refine mv (.bool _) rfl ?_
          refine jsplit 115 rfl (fun h10 => ?_) (fun h10 => ?_)
          · replace h10 := of_decide_eq_true h10
            refine g_on rfl rfl rfl ?_
            refine mv (.int _ _) rfl ?_
            refine g_on rfl rfl rfl ?_
            refine cmp _ rfl rfl rfl ?_
            refine pkt (.bool _) rfl rfl ?_
            refine asg (.bool _) rfl ?_
            refine jt ?_
            refine c_cond rfl (fun h11 => ?_) (fun h11 => ?_)
            · replace h11 := of_decide_eq_true h11
              refine c_reg ?_
              refine mv (.int _ _) rfl ?_
              refine subU8 (a := (List.getD w i 0)) (b := (48 : UInt8)) rfl rfl ?_
              refine asg (.int _ _) rfl ?_
              refine jn ?_
              refine e_in ?_
              exact e_lp ((List.getD w i 0) - (48 : UInt8)) (by repeat (first | exact out_self | refine out_hav (by kernel_rfl) ?_ | refine out_look (by kernel_rfl) ?_)) (fun k hk k2 => by have e1 := congrArg UInt8.toNat k2; have e2 : ((List.getD w i 0) ||| 32).toNat = (dch k ||| 32).toNat := (by rw [k2]); rcases dch_low k (by omega) with ⟨a1, a2, a3⟩ | ⟨a1, a2, a3, a4⟩ <;> first | (rw [k2]; exact a3) | (rw [k2]; exact a4) | (exfalso; omega)) trivial (⟨rfl, rfl, trivial⟩) rfl rfl rfl
            · replace h11 := of_decide_eq_false h11
              refine c_seq ?_
              refine c_reg ?_
              refine mv (.int _ _) rfl ?_
              refine cal (lower_ct (List.getD w i 0)) [] [0] [_] rfl rfl rfl (by kernel_rfl) impl_nil rfl ?_; rintro _ _ _ ⟨rfl, rfl, rfl⟩; refine ⟨trivial, ?_⟩
              refine cmp _ rfl rfl rfl ?_
              refine mv (.bool _) rfl ?_
              refine jsplit 125 rfl (fun h12 => ?_) (fun h12 => ?_)
              · replace h12 := of_decide_eq_true h12
                refine g_on rfl rfl rfl ?_
                refine mv (.int _ _) rfl ?_
                refine g_on rfl rfl rfl ?_
                refine cal (lower_ct (List.getD w i 0)) [] [0] [_] rfl rfl rfl (by kernel_rfl) impl_nil rfl ?_; rintro _ _ _ ⟨rfl, rfl, rfl⟩; refine ⟨trivial, ?_⟩
                refine g_on rfl rfl rfl ?_
                refine cmp _ rfl rfl rfl ?_
                refine pkt (.bool _) rfl rfl ?_
                refine asg (.bool _) rfl ?_
                refine jt ?_
                refine c_cond rfl (fun h13 => ?_) (fun h13 => ?_)
                · replace h13 := of_decide_eq_true h13
                  refine c_reg ?_
                  refine mv (.int _ _) rfl ?_
                  refine cal (lower_ct (List.getD w i 0)) [] [0] [_] rfl rfl rfl (by kernel_rfl) impl_nil rfl ?_; rintro _ _ _ ⟨rfl, rfl, rfl⟩; refine ⟨trivial, ?_⟩
                  refine subU8 (a := ((List.getD w i 0) ||| 32)) (b := (97 : UInt8)) rfl rfl ?_
                  refine addU8 (a := (((List.getD w i 0) ||| 32) - (97 : UInt8))) (b := (10 : UInt8)) rfl rfl ?_
                  refine asg (.int _ _) rfl ?_
                  refine jn ?_
                  refine e_in ?_
                  exact e_lp ((((List.getD w i 0) ||| 32) - (97 : UInt8)) + (10 : UInt8)) (by repeat (first | exact out_self | refine out_hav (by kernel_rfl) ?_ | refine out_look (by kernel_rfl) ?_)) (fun k hk k2 => by have e1 := congrArg UInt8.toNat k2; have e2 : ((List.getD w i 0) ||| 32).toNat = (dch k ||| 32).toNat := (by rw [k2]); rcases dch_low k (by omega) with ⟨a1, a2, a3⟩ | ⟨a1, a2, a3, a4⟩ <;> first | (rw [k2]; exact a3) | (rw [k2]; exact a4) | (exfalso; omega)) trivial (⟨rfl, rfl, trivial⟩) rfl rfl rfl
                · replace h13 := of_decide_eq_false h13
                  refine c_seq ?_
                  refine c_reg ?_
                  refine mki (v := (.int _ _)) rfl Tryd.underlying141 rfl ?_
                  refine asg (.int _ _) rfl ?_
                  refine asg (.iface _ _) rfl ?_
                  refine jt ?_
                  refine c_ret ?_
                  exact j_end (own0 := []) (ro0 := []) (.inl rfl) rfl (hr2 Tryd.results86 (rvt (v := (.int _ _)) rfl) (rvt (v := (.iface _ _)) rfl)) [] [0] [] [_] [] _ rfl rfl (by kernel_rfl) rfl impl_nil (.inr ⟨fun m hm e => by obtain ⟨k, k1, k2, k3, k4⟩ := HS m hm e; have e1 := congrArg UInt8.toNat k2; have e2 : ((List.getD w i 0) ||| 32).toNat = (dch k ||| 32).toNat := (by rw [k2]); rcases dch_low k (by omega) with ⟨a1, a2, a3⟩ | ⟨a1, a2, a3, a4⟩ <;> omega, (0 : UInt64), 2, .inr rfl, rfl, rfl, rfl⟩)
              · replace h12 := of_decide_eq_false h12
                refine g_off rfl rfl rfl rfl ?_
                refine g_off rfl rfl rfl rfl ?_
                refine g_off rfl rfl rfl rfl ?_
                refine pkf (.bool _) rfl rfl ?_
                refine asg (.bool _) rfl ?_
                refine jt ?_
                refine c_false rfl ?_
                refine c_seq ?_
                refine c_reg ?_
                refine mki (v := (.int _ _)) rfl Tryd.underlying141 rfl ?_
                refine asg (.int _ _) rfl ?_
                refine asg (.iface _ _) rfl ?_
                refine jt ?_
                refine c_ret ?_
                exact j_end (own0 := []) (ro0 := []) (.inl rfl) rfl (hr2 Tryd.results86 (rvt (v := (.int _ _)) rfl) (rvt (v := (.iface _ _)) rfl)) [] [0] [] [_] [] _ rfl rfl (by kernel_rfl) rfl impl_nil (.inr ⟨fun m hm e => by obtain ⟨k, k1, k2, k3, k4⟩ := HS m hm e; have e1 := congrArg UInt8.toNat k2; have e2 : ((List.getD w i 0) ||| 32).toNat = (dch k ||| 32).toNat := (by rw [k2]); rcases dch_low k (by omega) with ⟨a1, a2, a3⟩ | ⟨a1, a2, a3, a4⟩ <;> omega, (0 : UInt64), 2, .inr rfl, rfl, rfl, rfl⟩)
          · replace h10 := of_decide_eq_false h10
            refine g_off rfl rfl rfl rfl ?_
            refine g_off rfl rfl rfl rfl ?_
            refine pkf (.bool _) rfl rfl ?_
            refine asg (.bool _) rfl ?_
            refine jt ?_
            refine c_false rfl ?_
            refine c_seq ?_
            refine c_reg ?_
            refine mv (.int _ _) rfl ?_
            refine cal (lower_ct (List.getD w i 0)) [] [0] [_] rfl rfl rfl (by kernel_rfl) impl_nil rfl ?_; rintro _ _ _ ⟨rfl, rfl, rfl⟩; refine ⟨trivial, ?_⟩
            refine cmp _ rfl rfl rfl ?_
            refine mv (.bool _) rfl ?_
            refine jsplit 125 rfl (fun h14 => ?_) (fun h14 => ?_)
            · replace h14 := of_decide_eq_true h14
              refine g_on rfl rfl rfl ?_
              refine mv (.int _ _) rfl ?_
              refine g_on rfl rfl rfl ?_
              refine cal (lower_ct (List.getD w i 0)) [] [0] [_] rfl rfl rfl (by kernel_rfl) impl_nil rfl ?_; rintro _ _ _ ⟨rfl, rfl, rfl⟩; refine ⟨trivial, ?_⟩
              refine g_on rfl rfl rfl ?_
              refine cmp _ rfl rfl rfl ?_
              refine pkt (.bool _) rfl rfl ?_
              refine asg (.bool _) rfl ?_
              refine jt ?_
              refine c_cond rfl (fun h15 => ?_) (fun h15 => ?_)
              · replace h15 := of_decide_eq_true h15
                refine c_reg ?_
                refine mv (.int _ _) rfl ?_
                refine cal (lower_ct (List.getD w i 0)) [] [0] [_] rfl rfl rfl (by kernel_rfl) impl_nil rfl ?_; rintro _ _ _ ⟨rfl, rfl, rfl⟩; refine ⟨trivial, ?_⟩
                refine subU8 (a := ((List.getD w i 0) ||| 32)) (b := (97 : UInt8)) rfl rfl ?_
                refine addU8 (a := (((List.getD w i 0) ||| 32) - (97 : UInt8))) (b := (10 : UInt8)) rfl rfl ?_
                refine asg (.int _ _) rfl ?_
                refine jn ?_
                refine e_in ?_
                exact e_lp ((((List.getD w i 0) ||| 32) - (97 : UInt8)) + (10 : UInt8)) (by repeat (first | exact out_self | refine out_hav (by kernel_rfl) ?_ | refine out_look (by kernel_rfl) ?_)) (fun k hk k2 => by have e1 := congrArg UInt8.toNat k2; have e2 : ((List.getD w i 0) ||| 32).toNat = (dch k ||| 32).toNat := (by rw [k2]); rcases dch_low k (by omega) with ⟨a1, a2, a3⟩ | ⟨a1, a2, a3, a4⟩ <;> first | (rw [k2]; exact a3) | (rw [k2]; exact a4) | (exfalso; omega)) trivial (⟨rfl, rfl, trivial⟩) rfl rfl rfl
              · replace h15 := of_decide_eq_false h15
                refine c_seq ?_
                refine c_reg ?_
                refine mki (v := (.int _ _)) rfl Tryd.underlying141 rfl ?_
                refine asg (.int _ _) rfl ?_
                refine asg (.iface _ _) rfl ?_
                refine jt ?_
                refine c_ret ?_
                exact j_end (own0 := []) (ro0 := []) (.inl rfl) rfl (hr2 Tryd.results86 (rvt (v := (.int _ _)) rfl) (rvt (v := (.iface _ _)) rfl)) [] [0] [] [_] [] _ rfl rfl (by kernel_rfl) rfl impl_nil (.inr ⟨fun m hm e => by obtain ⟨k, k1, k2, k3, k4⟩ := HS m hm e; have e1 := congrArg UInt8.toNat k2; have e2 : ((List.getD w i 0) ||| 32).toNat = (dch k ||| 32).toNat := (by rw [k2]); rcases dch_low k (by omega) with ⟨a1, a2, a3⟩ | ⟨a1, a2, a3, a4⟩ <;> omega, (0 : UInt64), 2, .inr rfl, rfl, rfl, rfl⟩)
            · replace h14 := of_decide_eq_false h14
              refine g_off rfl rfl rfl rfl ?_
              refine g_off rfl rfl rfl rfl ?_
              refine g_off rfl rfl rfl rfl ?_
              refine pkf (.bool _) rfl rfl ?_
              refine asg (.bool _) rfl ?_
              refine jt ?_
              refine c_false rfl ?_
              refine c_seq ?_
              refine c_reg ?_
              refine mki (v := (.int _ _)) rfl Tryd.underlying141 rfl ?_
              refine asg (.int _ _) rfl ?_
              refine asg (.iface _ _) rfl ?_
              refine jt ?_
              refine c_ret ?_
              exact j_end (own0 := []) (ro0 := []) (.inl rfl) rfl (hr2 Tryd.results86 (rvt (v := (.int _ _)) rfl) (rvt (v := (.iface _ _)) rfl)) [] [0] [] [_] [] _ rfl rfl (by kernel_rfl) rfl impl_nil (.inr ⟨fun m hm e => by obtain ⟨k, k1, k2, k3, k4⟩ := HS m hm e; have e1 := congrArg UInt8.toNat k2; have e2 : ((List.getD w i 0) ||| 32).toNat = (dch k ||| 32).toNat := (by rw [k2]); rcases dch_low k (by omega) with ⟨a1, a2, a3⟩ | ⟨a1, a2, a3, a4⟩ <;> omega, (0 : UInt64), 2, .inr rfl, rfl, rfl, rfl⟩)
      · rintro d g hC1
        try dsimp only at hC1 ⊢
        refine c_seq ?_
        refine c_seq ?_
        refine c_reg ?_
        refine mv (.int _ _) rfl ?_
        refine mv (.int _ _) rfl ?_
        refine cvI 16 rfl Tryd.underlying3 Tryd.underlying5 (by kernel_rfl) ?_
        refine cmp _ rfl rfl rfl ?_
        refine jt ?_
        refine c_cond rfl (fun h16 => ?_) (fun h16 => ?_)
        · replace h16 := of_decide_eq_true h16
          refine c_seq ?_
          refine c_reg ?_
          refine mki (v := (.int _ _)) rfl Tryd.underlying141 rfl ?_
          refine asg (.int _ _) rfl ?_
          refine asg (.iface _ _) rfl ?_
          refine jt ?_
          refine c_ret ?_
          exact j_end (own0 := []) (ro0 := []) (.inl rfl) rfl (hr2 Tryd.results86 (rvt (v := (.int _ _)) rfl) (rvt (v := (.iface _ _)) rfl)) [] [0] [] [_] [] _ rfl rfl (by kernel_rfl) rfl impl_nil (.inr ⟨fun m hm e => by obtain ⟨k, k1, k2, k3, k4⟩ := HS m hm e; have h9 := hC1 k k1 k2; omega, (0 : UInt64), 2, .inr rfl, rfl, rfl, rfl⟩)
        · replace h16 := of_decide_eq_false h16
          refine c_skip ?_
          refine e_then ?_
          refine c_seq ?_
          refine c_seq ?_
          refine c_reg ?_
          refine mv (.int _ _) rfl ?_
          refine mv (.int _ _) rfl ?_
          refine cmp _ rfl rfl rfl ?_
          refine jt ?_
          refine c_cond rfl (fun h17 => ?_) (fun h17 => ?_)
          · replace h17 := of_decide_eq_true h17
            refine c_seq ?_
            refine c_reg ?_
            refine mv (.int _ _) rfl ?_
            refine mki (v := (.int _ _)) rfl Tryd.underlying141 rfl ?_
            refine asg (.int _ _) rfl ?_
            refine asg (.iface _ _) rfl ?_
            refine jt ?_
            refine c_ret ?_
            exact j_end (own0 := []) (ro0 := []) (.inl rfl) rfl (hr2 Tryd.results86 (rvt (v := (.int _ _)) rfl) (rvt (v := (.iface _ _)) rfl)) [] [0] [] [_] [] _ rfl rfl (by kernel_rfl) rfl impl_nil (.inr ⟨fun m hm e => by obtain ⟨k, k1, k2, k3, k4⟩ := HS m hm e; have h9 := hC1 k k1 k2; omega, (4294967295 : UInt64), 1, .inl ⟨rfl, rfl⟩, rfl, rfl, rfl⟩)
          · replace h17 := of_decide_eq_false h17
            refine c_skip ?_
            refine e_then ?_
            refine c_seq ?_
            refine c_reg ?_
            refine mv (.int _ _) rfl ?_
            refine mv (.int _ _) rfl ?_
            refine cvI 16 rfl Tryd.underlying3 Tryd.underlying23 (by kernel_rfl) ?_
            refine mulU64 (a := n) (b := (16 : UInt64)) rfl rfl ?_
            refine asg (.int _ _) rfl ?_
            refine jt ?_
            refine c_seq ?_
            refine c_reg ?_
            refine mv (.int _ _) rfl ?_
            refine mv (.int _ _) rfl ?_
            refine cvNU64 (n := d.toNat) rfl Tryd.underlying5 Tryd.underlying23 ?_
            refine addU64 (a := (n * (16 : UInt64))) (b := (UInt64.ofNat d.toNat)) rfl rfl ?_
            refine asg (.int _ _) rfl ?_
            refine jt ?_
            refine c_seq ?_
            refine c_seq ?_
            have HD := d.toNat_lt
            have HM : (n * 16).toNat = n.toNat * 16 := by rw [UInt64.toNat_mul]; show n.toNat * 16 % 2 ^ 64 = _; omega
            have HN : (n * 16 + UInt64.ofNat d.toNat).toNat = (n.toNat * 16 + d.toNat) % 18446744073709551616 := by rw [UInt64.toNat_add, HM, UInt64.toNat_ofNat', Nat.mod_eq_of_lt (a := d.toNat) (by omega)]
            refine c_reg ?_
            refine mv (.int _ _) rfl ?_
            refine mv (.int _ _) rfl ?_
            refine cmp _ rfl rfl rfl ?_
            refine mv (.bool _) rfl ?_
            refine jsplit 155 rfl (fun h18 => ?_) (fun h18 => ?_)
            · replace h18 := of_decide_eq_true h18
              refine g_off rfl rfl rfl rfl ?_
              refine g_off rfl rfl rfl rfl ?_
              refine g_off rfl rfl rfl rfl ?_
              refine pkt (.bool _) rfl rfl ?_
              refine jt ?_
              refine c_true rfl ?_
              refine c_seq ?_
              refine c_reg ?_
              refine mv (.int _ _) rfl ?_
              refine mki (v := (.int _ _)) rfl Tryd.underlying141 rfl ?_
              refine asg (.int _ _) rfl ?_
              refine asg (.iface _ _) rfl ?_
              refine jt ?_
              refine c_ret ?_
              exact j_end (own0 := []) (ro0 := []) (.inl rfl) rfl (hr2 Tryd.results86 (rvt (v := (.int _ _)) rfl) (rvt (v := (.iface _ _)) rfl)) [] [0] [] [_] [] _ rfl rfl (by kernel_rfl) rfl impl_nil (.inr ⟨fun m hm e => by obtain ⟨k, k1, k2, k3, k4⟩ := HS m hm e; have h9 := hC1 k k1 k2; omega, (4294967295 : UInt64), 1, .inl ⟨rfl, rfl⟩, rfl, rfl, rfl⟩)
            · replace h18 := of_decide_eq_false h18
              refine g_on rfl rfl rfl ?_
              refine mv (.int _ _) rfl ?_
              refine g_on rfl rfl rfl ?_
              refine mv (.int _ _) rfl ?_
              refine g_on rfl rfl rfl ?_
              refine cmp _ rfl rfl rfl ?_
              refine pkf (.bool _) rfl rfl ?_
              refine jt ?_
              refine c_cond rfl (fun h19 => ?_) (fun h19 => ?_)
              · replace h19 := of_decide_eq_true h19
                refine c_seq ?_
                refine c_reg ?_
                refine mv (.int _ _) rfl ?_
                refine mki (v := (.int _ _)) rfl Tryd.underlying141 rfl ?_
                refine asg (.int _ _) rfl ?_
                refine asg (.iface _ _) rfl ?_
                refine jt ?_
                refine c_ret ?_
                exact j_end (own0 := []) (ro0 := []) (.inl rfl) rfl (hr2 Tryd.results86 (rvt (v := (.int _ _)) rfl) (rvt (v := (.iface _ _)) rfl)) [] [0] [] [_] [] _ rfl rfl (by kernel_rfl) rfl impl_nil (.inr ⟨fun m hm e => by obtain ⟨k, k1, k2, k3, k4⟩ := HS m hm e; have h9 := hC1 k k1 k2; omega, (4294967295 : UInt64), 1, .inl ⟨rfl, rfl⟩, rfl, rfl, rfl⟩)
              · replace h19 := of_decide_eq_false h19
                refine c_skip ?_
                refine e_then ?_
                refine c_reg ?_
                refine mv (.int _ _) rfl ?_
                refine asg (.int _ _) rfl ?_
                refine jn ?_
                refine e_in ?_
                refine e_then ?_
                refine c_reg ?_
                refine addi rfl rfl rfl (by omega) ?_
                refine mv (.int _ _) rfl ?_
                refine jn ?_
                exact e_lp (i + 1, ((n * (16 : UInt64)) + (UInt64.ofNat d.toNat))) (by repeat (first | exact out_self | refine out_hav (by kernel_rfl) ?_ | refine out_look (by kernel_rfl) ?_)) (⟨by omega, fun m hm e => by obtain ⟨k, k1, k2, k3, k4⟩ := HS m hm e; have h9 := hC1 k k1 k2; rw [← k3, HN]; omega⟩) (by show w.length - (i + 1) < w.length - i; omega) (⟨rfl, rfl, rfl, trivial⟩) rfl rfl rfl
    · replace h2 := of_decide_eq_false h2
      refine c_exit rfl ?_
      refine e_then ?_
      refine c_seq ?_
      refine c_seq ?_
      refine c_reg ?_
      refine mv (.bool _) rfl ?_
      refine mv (.bool _) rfl ?_
      refine g_off rfl rfl rfl rfl ?_
      refine g_off rfl rfl rfl rfl ?_
      refine g_off rfl rfl rfl rfl ?_
      refine pkf (.bool _) rfl rfl ?_
      refine jt ?_
      refine c_false rfl ?_
      refine c_skip ?_
      refine e_then ?_
      refine c_seq ?_
      refine c_reg ?_
      refine mv (.int _ _) rfl ?_
      refine asg (.int _ _) rfl ?_
      refine asg .nilIface rfl ?_
      refine jt ?_
      refine c_ret ?_
      exact j_end (own0 := []) (ro0 := []) (.inl rfl) rfl (hr2 Tryd.results86 (rvt (v := (.int _ _)) rfl) (rvt (v := .nilIface) rfl)) [] [0] [] [_] [] _ rfl rfl (by kernel_rfl) rfl impl_nil (.inl ⟨_, fun m hm e => by have h9 := hI1.2 m hm e; rw [show w.length - i = 0 by omega, Nat.pow_zero, Nat.div_one] at h9; exact h9, rfl, rfl, rfl⟩)
end Go.Proofs.YthpbiamicidakaaDoor
namespace Go.PW
open Enc (enc val)
open Go
theorem Ow.ok_copy {α : Type} [Enc α] {o : Ow} {xs ys : List α} (h : o.ok xs) (hl : ys.length ≤ xs.length) : o.ok (ys ++ xs.drop ys.length) := by
  have e : (ys ++ xs.drop ys.length).length = xs.length := by rw [List.length_append, List.length_drop]; omega
  refine ⟨fun hn => ?_, fun hn => by rw [e]; exact h.len hn, by rw [e]; exact h.le⟩
  obtain ⟨rfl, hc⟩ := h.nl hn
  have : ys = [] := List.eq_nil_of_length_eq_zero (by simpa using hl)
  subst this
  exact ⟨rfl, hc⟩
theorem copy_all {α : Type} {s : List α} {z : α} : s ++ (List.replicate s.length z).drop s.length = s := by simp
section
variable {cx : Cx} {md : Md} {ops : Array Oper} {Q : Exit → Act → World → Prop} {rest : List (Oper × Nat)} {kq : Nat} {base : Nat → Value} {L : List (Nat × Value)} {own ro : List Seg}
variable {q : Nat} {d : Nat} {ty : TypeId} {pos : String} {aft : Array Edge} {x y z : Operand} {xt yt : TypeId} {k k2 : IntKind}
theorem quon {a b : Nat} (hx : ev cx.n base L x = .int .i64 (a : Int)) (hy : ev cx.n base L y = .int .i64 (b : Int)) (hb : b ≠ 0) (ha : a ≤ 9223372036854775807)
    (h : JG cx md ops Q rest base ((d, .int .i64 ((a / b : Nat) : Int)) :: L) own ro) : JG cx md ops Q ((⟨some d, .binOp .quo xt x y yt, ty, pos, aft, none⟩, q) :: rest) base L own ro :=
  quoi hx hy (by omega) (by rw [← Int.ofNat_tdiv]; have := Nat.div_le_self a b; generalize a / b = z at *; omega) (by rw [← Int.ofNat_tdiv]; exact h)
end
theorem or8 {a : UInt64} {x : UInt8} (ha : a.toNat < 72057594037927936) : (shlU64 a 8 ||| UInt64.ofNat x.toNat).toNat = a.toNat * 256 + x.toNat := by
  have hx := x.toNat_lt
  rw [UInt64.toNat_or, shlU64_toNat, UInt64.toNat_ofNat', Nat.mod_eq_of_lt (by omega), Nat.mod_eq_of_lt (by omega)]
  have := Nat.shiftLeft_add_eq_or_of_lt (b := x.toNat) (i := 8) hx a.toNat
  rw [Nat.shiftLeft_eq] at this
  exact this.symm
theorem hval_byte {w : Str} {n j : Nat} (hw : w.length = 2 * n) (hk : hexok w = true) (hj : j < n) : hval w (2 * (j + 1)) = hval w (2 * j) * 256 + (List.getD (hexb w n) j 0).toNat := by
  have h1 := hexok_get hk (i := 2 * j) (by omega)
  have h2 := hexok_get hk (i := 2 * j + 1) (by omega)
  rw [show 2 * (j + 1) = 2 * j + 1 + 1 by omega, hval_step (by omega), hval_step (by omega)]
  unfold hexb
  rw [hrow_get hj]
  unfold hbyte
  rw [if_pos (by omega), bn (by omega)]; omega
theorem ofInt_hex {n : Nat} (h : n < 16) : UInt8.ofInt (n : Int) = UInt8.ofNat n := by
  apply UInt8.toNat_inj.1
  show (UInt8.ofNat ((n : Int) % 2 ^ 8).toNat).toNat = _
  congr 2; omega
theorem hrow_ok {n b : Nat} {ys : Str} (h : ys.length = n) : Ow.ok ⟨false, b, n, encs (List.replicate (n - n) (0 : UInt8))⟩ ys := by
  subst h
  exact ⟨fun h => by simp at h, fun _ => by simp [encs], Nat.le_refl _⟩
theorem hrow_go {w ys : Str} {n i : Nat} {rt : Bool} (h : i ≤ w.length ∧ ys.length = n ∧ (rt = true → w.length = 2 * n ∧ ys = hrow w n i ∧ ∀ j, j < i → hexv (List.getD w j 0) < 16) ∧ (rt = false → ¬(w.length = 2 * n ∧ hexok w = true))) (hr : rt = true) (hi : i < w.length) :
    i + 1 ≤ w.length ∧ (ys.set (i / 2) (shlU8 (List.getD ys (i / 2) 0) 4 ||| UInt8.ofInt (idxB hexL (List.getD w i 0)))).length = n ∧
    (decide (0 ≤ idxB hexL (List.getD w i 0)) = true → w.length = 2 * n ∧ ys.set (i / 2) (shlU8 (List.getD ys (i / 2) 0) 4 ||| UInt8.ofInt (idxB hexL (List.getD w i 0))) = hrow w n (i + 1) ∧ ∀ j, j < i + 1 → hexv (List.getD w j 0) < 16) ∧
    (decide (0 ≤ idxB hexL (List.getD w i 0)) = false → ¬(w.length = 2 * n ∧ hexok w = true)) := by
  obtain ⟨h1, h2, h3, _⟩ := h
  obtain ⟨h4, h5, h6⟩ := h3 hr
  refine ⟨hi, by rw [List.length_set]; exact h2, fun h => ?_, fun h => ?_⟩
  · have h := of_decide_eq_true h
    have hx : hexv (List.getD w i 0) < 16 := by
      rw [idx_hex] at h
      by_cases hh : hexv (List.getD w i 0) < 16
      · exact hh
      · rw [if_neg hh] at h; omega
    refine ⟨h4, ?_, fun j hj => ?_⟩
    · rw [idx_hex, if_pos hx, ofInt_hex hx, h5]; exact (hrow_step (by omega) hx h6).symm
    · rcases Nat.lt_succ_iff_lt_or_eq.1 hj with h | h
      · exact h6 j h
      · subst h; exact hx
  · have h := of_decide_eq_false h
    have hx : ¬ hexv (List.getD w i 0) < 16 := fun hh => h (by rw [idx_hex, if_pos hh]; omega)
    intro hc
    rw [hexok_no hi hx] at hc; cases hc.2
def degR (s : Str) (M : F64) (p : Nat) : PR F64 := match hexR s 8 p with
  | .inl q => .inl q
  | .inr (w, q) => if oddB (degB w) M = true then .inl (p + 1) else .inr (degB w, q)
theorem degR_l {s : Str} {M : F64} {p q : Nat} (h : hexR s 8 p = .inl q) : degR s M p = .inl q := by unfold degR; rw [h]
theorem degR_odd {s : Str} {M : F64} {p q : Nat} {w : Str} (h : hexR s 8 p = .inr (w, q)) (ho : oddB (degB w) M = true) : degR s M p = .inl (p + 1) := by unfold degR; rw [h]; simp only; rw [if_pos ho]
theorem degR_ok {s : Str} {M : F64} {p q : Nat} {w : Str} (h : hexR s 8 p = .inr (w, q)) (ho : oddB (degB w) M = false) : degR s M p = .inr (degB w, q) := by unfold degR; rw [h]; simp only; rw [if_neg (by rw [ho]; decide)]
theorem blk_lt {s : Str} {p : Nat} (h : blk s p = true) : p < s.length := by simp only [blk, Bool.and_eq_true, decide_eq_true_eq] at h; exact h.1
theorem hexR_next {s : Str} {n p q : Nat} {w : Str} (h : hexR s n p = .inr (w, q)) : p < q ∧ q ≤ s.length ∧ w.length = 2 * n ∧ hexok w = true := by
  unfold hexR at h
  by_cases hb : blk s p = true
  · rw [if_pos hb] at h
    have hp := blk_lt hb
    have := wlen_le s (p + 1)
    by_cases h2 : wlen s (p + 1) = 2 * n ∧ hexok (word s (p + 1)) = true
    · rw [if_pos h2] at h; cases h
      exact ⟨by omega, by omega, by rw [word_length]; exact h2.1, h2.2⟩
    · rw [if_neg h2] at h; cases h
  · rw [if_neg hb] at h; cases h
theorem blk_yes {s : Str} {p : Nat} (h : p < s.length) (h2 : List.getD s p 0 = 32) : blk s p = true := by unfold blk; rw [decide_eq_true h, decide_eq_true h2]; rfl
theorem blk_out {s : Str} {p : Nat} (h : ¬ p < s.length) : blk s p = false := by unfold blk; rw [decide_eq_false h]; rfl
theorem blk_no {s : Str} {p : Nat} (h2 : ¬ List.getD s p 0 = 32) : blk s p = false := by unfold blk; rw [decide_eq_false h2, Bool.and_false]
end Go.PW
namespace Go.Proofs.YthpbiamicidakaaDoor
open Go Go.Proofs Go.PW
open Go.PW.Enc (enc val)
theorem zw5 : Zt Tryd.prog 5 (val (0 : UInt8)) := by unfold Zt; kernel_rfl
theorem ty80 : Ty Tryd.prog 80 1 false := ⟨by kernel_rfl, by kernel_rfl⟩
theorem lay148 : ∀ fs, Tryd.prog.underlying 148 = some (.struct fs) → Lay Tryd.prog fs [(0, 1), (1, 1), (2, 1)] := fun fs h => by rw [Tryd.underlying148] at h; cases h; unfold Lay; kernel_rfl
theorem z148 : Zt Tryd.prog 148 (.agg ⟨cat [pt ([] : Str), pt ([] : Str), p1 .nilIface]⟩) := by unfold Zt; kernel_rfl
theorem Clone_ct (s : Str) (hs : s.length ≤ 140737488351232) : Ct Tryd.prog 119 [strV s] [] [] (fun v o r => v = strV s ∧ o = [] ∧ r = []) := by
  refine ct_enter Tryd.func119 rfl Tryd.ntmps119 (by kernel_rfl) rfl fun w0 => ?_
  refine c_seq ?_
  refine c_reg ?_
  refine asg (.string _) rfl ?_
  refine jt ?_
  refine c_seq ?_
  refine c_seq ?_
  refine c_reg ?_
  refine mv (.string _) rfl ?_
  refine lenT (s := s) rfl Tryd.underlying9 ?_
  refine cmp _ rfl rfl rfl ?_
  refine jt ?_
  refine c_cond rfl (fun h1 => ?_) (fun h1 => ?_)
  · replace h1 := of_decide_eq_true h1
    refine c_seq ?_
    refine c_reg ?_
    refine asg (.string _) rfl ?_
    refine jt ?_
    refine c_ret ?_
    exact j_end (own0 := []) (ro0 := []) (.inl rfl) rfl (hr1 Tryd.results119 (rvt (v := (.string _)) rfl)) [] [] [] [] [] _ rfl rfl (by kernel_rfl) rfl impl_nil (⟨by rw [List.eq_nil_of_length_eq_zero (show s.length = 0 by omega)], rfl, rfl⟩)
  · replace h1 := of_decide_eq_false h1
    refine c_skip ?_
    refine e_then ?_
    refine c_seq ?_
    refine c_reg ?_
    refine mv (.string _) rfl ?_
    refine lenT (s := s) rfl Tryd.underlying9 ?_
    refine mks (0 : UInt8) s.length s.length rfl rfl rfl rfl (Nat.le_refl _) Tryd.underlying50 ty5.sz by5 zw5 (by omega) rfl fun b9 => ⟨trivial, ?_⟩
    refine asg (.slice _ _ _) rfl ?_
    refine jt ?_
    refine c_seq ?_
    refine c_reg ?_
    refine mv (.slice _ _ _) rfl ?_
    refine mv (.string _) rfl ?_
    refine cpy 0 (⟨false, b9, s.length, encs (List.replicate (s.length - s.length) (0 : UInt8))⟩ : Ow) (List.replicate s.length (0 : UInt8)) s (mks_ok (0 : UInt8) b9 s.length s.length (Nat.le_refl _)) rfl rfl (by simp) rfl rfl (gives_str s) (by simp) Tryd.underlying50 ty5.sz ⟨trivial, ?_⟩
    refine jt ?_
    refine c_seq ?_
    refine c_reg ?_
    refine mv (.slice _ _ _) rfl ?_
    refine ixs (((⟨false, b9, s.length, encs (List.replicate (s.length - s.length) (0 : UInt8))⟩ : Ow)).vs) (s ++ List.drop s.length (List.replicate s.length (0 : UInt8))) 0 (Ow.vs_ok (Ow.ok_copy (mks_ok (0 : UInt8) b9 s.length s.length (Nat.le_refl _)) (by simp))) rfl (by simp) rfl Tryd.underlying50 ty5.sz rfl (by simp; omega) ?_
    refine mv (.slice _ _ _) rfl ?_
    refine lenS rfl Tryd.underlying50 ?_
    refine ust 0 (Ow.ok_copy (mks_ok (0 : UInt8) b9 s.length s.length (Nat.le_refl _)) (by simp)) rfl rfl rfl (by simp) rfl Tryd.underlying112 (by kernel_rfl) (by simp; omega) ⟨trivial, ?_⟩
    refine asg (.string _) rfl ?_
    refine jt ?_
    refine c_ret ?_
    exact j_end (own0 := []) (ro0 := []) (.inl rfl) rfl (hr1 Tryd.results119 (rvt (v := (.string _)) rfl)) [] [0] [] [_] [] _ rfl rfl (by kernel_rfl) rfl impl_nil (⟨by rw [copy_all], rfl, rfl⟩)
theorem synErr_ct (f s : Str) (hs : s.length ≤ 140737488351232) (eu : TypeId) (ev : Value) : Ct Tryd.prog 107 [strV f, strV s] [] [tIf 5 eu ev] (fun v o r => ∃ b : Nat, v = .pointer (some ⟨b, 0, none⟩) ∧ o = [] ∧ r = []) := by
  refine ct_enter Tryd.func107 rfl Tryd.ntmps107 (by kernel_rfl) rfl fun w0 => ?_
  refine c_seq ?_
  refine c_reg ?_
  refine asg (.pointer _) rfl ?_
  refine jt ?_
  refine c_seq ?_
  refine c_dr [_] [] [(0, 0), (1, 0), (3, 0), (2, 1), (4, 0), (5, 1), (6, 0)] follows (by kernel_rfl) calm_body (keepS [0] rfl) ?_
  refine mv (.string _) rfl ?_
  refine mv (.string _) rfl ?_
  refine ldv1 0 rfl rfl rfl ty80 ?_
  refine cal (Clone_ct s (by omega)) [] [] [] rfl rfl rfl (by kernel_rfl) impl_nil rfl ?_; rintro _ _ _ ⟨rfl, rfl, rfl⟩; refine ⟨keepI [0] rfl, ?_⟩
  refine bld [pt ([] : Str), pt ([] : Str), p1 .nilIface] [(0, pt f), (1, pt s), (2, p1 (.iface eu ev))] _ Tryd.underlying148 (lay148 _ Tryd.underlying148) z148 rfl rfl rfl ?_
  refine bxx [pt f, pt s, p1 (.iface eu ev)] _ rfl rfl fun b10 => ⟨keepI [1] rfl, ?_⟩
  refine asg (.pointer _) rfl ?_
  refine jt ?_
  refine c_ret ?_
  exact j_end (own0 := []) (ro0 := [tIf 5 eu ev]) (.inl rfl) rfl (hr1 Tryd.results107 (rvt (v := (.pointer _)) rfl)) [] [0] [] [_] [] _ rfl rfl (by kernel_rfl) rfl impl_nil (⟨_, rfl, rfl, rfl⟩)
theorem rngErr_ct (f s : Str) (hs : s.length ≤ 140737488351232) (ru : TypeId) (rv : Value) : Ct Tryd.prog 108 [strV f, strV s] [] [tIf 6 ru rv] (fun v o r => ∃ b : Nat, v = .pointer (some ⟨b, 0, none⟩) ∧ o = [] ∧ r = []) := by
  refine ct_enter Tryd.func108 rfl Tryd.ntmps108 (by kernel_rfl) rfl fun w0 => ?_
  refine c_seq ?_
  refine c_reg ?_
  refine asg (.pointer _) rfl ?_
  refine jt ?_
  refine c_seq ?_
  refine c_dr [_] [] [(0, 0), (1, 0), (3, 0), (2, 1), (4, 0), (5, 1), (6, 0)] follows (by kernel_rfl) calm_body (keepS [0] rfl) ?_
  refine mv (.string _) rfl ?_
  refine mv (.string _) rfl ?_
  refine ldv1 0 rfl rfl rfl ty80 ?_
  refine cal (Clone_ct s (by omega)) [] [] [] rfl rfl rfl (by kernel_rfl) impl_nil rfl ?_; rintro _ _ _ ⟨rfl, rfl, rfl⟩; refine ⟨keepI [0] rfl, ?_⟩
  refine bld [pt ([] : Str), pt ([] : Str), p1 .nilIface] [(0, pt f), (1, pt s), (2, p1 (.iface ru rv))] _ Tryd.underlying148 (lay148 _ Tryd.underlying148) z148 rfl rfl rfl ?_
  refine bxx [pt f, pt s, p1 (.iface ru rv)] _ rfl rfl fun b10 => ⟨keepI [1] rfl, ?_⟩
  refine asg (.pointer _) rfl ?_
  refine jt ?_
  refine c_ret ?_
  exact j_end (own0 := []) (ro0 := [tIf 6 ru rv]) (.inl rfl) rfl (hr1 Tryd.results108 (rvt (v := (.pointer _)) rfl)) [] [0] [] [_] [] _ rfl rfl (by kernel_rfl) rfl impl_nil (⟨_, rfl, rfl, rfl⟩)
set_option maxRecDepth 20000 in
set_option maxHeartbeats 4000000 in
theorem toError1_ct (f s : Str) (b z : Int) (hs : s.length ≤ 140737488351232) (eu : TypeId) (ev : Value) (ru : TypeId) (rv : Value) : Ct Tryd.prog 87 [strV f, strV s, .int .i64 b, .int .i64 z, .iface 141 (.int .i64 1)] [] [tIf 5 eu ev, tIf 6 ru rv] (fun v o r => ∃ (u : TypeId) (x : Value), v = .iface u x ∧ o = [] ∧ r = []) := by
  refine ct_enter Tryd.func87 rfl Tryd.ntmps87 (by kernel_rfl) rfl fun w0 => ?_
  refine c_seq ?_
  refine c_reg ?_
  refine asg .nilIface rfl ?_
  refine jt ?_
  refine c_seq ?_
  refine c_seq ?_
  refine c_reg ?_
  refine mv (.iface _ _) rfl ?_
  refine jt ?_
  refine c_block ?_
  refine c_seq ?_
  refine c_reg ?_
  refine mki (v := (.int _ _)) rfl Tryd.underlying141 rfl ?_
  refine eqii false rfl rfl Tryd.underlying80 Tryd.underlying141 (by kernel_rfl) rfl ?_
  refine asg (.bool _) rfl ?_
  refine jt ?_
  refine c_false rfl ?_
  refine c_seq ?_
  refine c_reg ?_
  refine mki (v := (.int _ _)) rfl Tryd.underlying141 rfl ?_
  refine eqii true rfl rfl Tryd.underlying80 Tryd.underlying141 (by kernel_rfl) rfl ?_
  refine asg (.bool _) rfl ?_
  refine jt ?_
  refine c_true rfl ?_
  refine c_seq ?_
  refine c_reg ?_
  refine mv (.string _) rfl ?_
  refine mv (.string _) rfl ?_
  refine cal (rngErr_ct f s (by omega) ru rv) [] [] [] rfl rfl rfl (by kernel_rfl) (impl_cons (impl_at 1 rfl) impl_nil) rfl ?_; rintro _ _ _ ⟨pb1, rfl, rfl, rfl⟩; refine ⟨trivial, ?_⟩
  refine mki (v := (.pointer _)) rfl Tryd.underlying143 rfl ?_
  refine asg (.iface _ _) rfl ?_
  refine jt ?_
  refine c_ret ?_
  exact j_end (own0 := []) (ro0 := [tIf 5 eu ev, tIf 6 ru rv]) (.inl rfl) rfl (hr1 Tryd.results87 (rvt (v := (.iface _ _)) rfl)) [] [] [] [] [] _ rfl rfl (by kernel_rfl) rfl impl_nil (⟨_, _, rfl, rfl, rfl⟩)
set_option maxRecDepth 20000 in
set_option maxHeartbeats 4000000 in
theorem toError2_ct (f s : Str) (b z : Int) (hs : s.length ≤ 140737488351232) (eu : TypeId) (ev : Value) (ru : TypeId) (rv : Value) : Ct Tryd.prog 87 [strV f, strV s, .int .i64 b, .int .i64 z, .iface 141 (.int .i64 2)] [] [tIf 5 eu ev, tIf 6 ru rv] (fun v o r => ∃ (u : TypeId) (x : Value), v = .iface u x ∧ o = [] ∧ r = []) := by
  refine ct_enter Tryd.func87 rfl Tryd.ntmps87 (by kernel_rfl) rfl fun w0 => ?_
  refine c_seq ?_
  refine c_reg ?_
  refine asg .nilIface rfl ?_
  refine jt ?_
  refine c_seq ?_
  refine c_seq ?_
  refine c_reg ?_
  refine mv (.iface _ _) rfl ?_
  refine jt ?_
  refine c_block ?_
  refine c_seq ?_
  refine c_reg ?_
  refine mki (v := (.int _ _)) rfl Tryd.underlying141 rfl ?_
  refine eqii true rfl rfl Tryd.underlying80 Tryd.underlying141 (by kernel_rfl) rfl ?_
  refine asg (.bool _) rfl ?_
  refine jt ?_
  refine c_true rfl ?_
  refine c_seq ?_
  refine c_reg ?_
  refine mv (.string _) rfl ?_
  refine mv (.string _) rfl ?_
  refine cal (synErr_ct f s (by omega) eu ev) [] [] [] rfl rfl rfl (by kernel_rfl) (impl_cons (impl_at 0 rfl) impl_nil) rfl ?_; rintro _ _ _ ⟨pb1, rfl, rfl, rfl⟩; refine ⟨trivial, ?_⟩
  refine mki (v := (.pointer _)) rfl Tryd.underlying143 rfl ?_
  refine asg (.iface _ _) rfl ?_
  refine jt ?_
  refine c_ret ?_
  exact j_end (own0 := []) (ro0 := [tIf 5 eu ev, tIf 6 ru rv]) (.inl rfl) rfl (hr1 Tryd.results87 (rvt (v := (.iface _ _)) rfl)) [] [] [] [] [] _ rfl rfl (by kernel_rfl) rfl impl_nil (⟨_, _, rfl, rfl, rfl⟩)
theorem sParseUint_ct (w : Str) (hw : w.length ≤ 140737488351232) (eu : TypeId) (ev : Value) (ru : TypeId) (rv : Value) : Ct Tryd.prog 62 [strV w, .int .i64 10, .int .i64 64] [] [tIf 5 eu ev, tIf 6 ru rv] (fun v o r => (∃ n : UInt64, (∀ m, m ≤ 18446744073709551615 → w = fmtN 10 m → n.toNat = m) ∧ v = .tuple #[.int .u64 (n.toNat : Int), .nilIface] ∧ o = [] ∧ r = []) ∨ ((∀ m, m ≤ 18446744073709551615 → w ≠ fmtN 10 m) ∧ ∃ (n : UInt64) (u : TypeId) (x : Value), v = .tuple #[.int .u64 (n.toNat : Int), .iface u x] ∧ o = [] ∧ r = [])) := by
  refine ct_enter Tryd.func62 rfl Tryd.ntmps62 (by kernel_rfl) rfl fun w0 => ?_
  refine c_seq ?_
  refine c_reg ?_
  refine asg (.int _ _) rfl ?_
  refine asg .nilIface rfl ?_
  refine jt ?_
  refine c_seq ?_
  refine c_reg ?_
  refine mv (.string _) rfl ?_
  refine mv (.int _ _) rfl ?_
  refine mv (.int _ _) rfl ?_
  refine cal (iParseUint10_ct w (by omega)) [] [] [] rfl rfl rfl (by kernel_rfl) impl_nil rfl ?_; rintro _ _ _ (⟨pn1, hp1, rfl, rfl, rfl⟩ | ⟨hp1, pn1, _, ⟨rfl, hmx1⟩ | rfl, rfl, rfl, rfl⟩)
  · refine ⟨trivial, ?_⟩
    refine mv (.tuple _) rfl ?_
    refine xtr (.int _ _) rfl rfl ?_
    refine xtr .nilIface rfl rfl ?_
    refine asg (.int _ _) rfl ?_
    refine asg .nilIface rfl ?_
    refine jt ?_
    refine c_seq ?_
    refine c_seq ?_
    refine c_reg ?_
    refine mv .nilIface rfl ?_
    refine eqnn false rfl Tryd.underlying80 rfl ?_
    refine jt ?_
    refine c_false rfl ?_
    refine c_skip ?_
    refine e_then ?_
    refine c_seq ?_
    refine c_reg ?_
    refine mv (.int _ _) rfl ?_
    refine asg (.int _ _) rfl ?_
    refine asg .nilIface rfl ?_
    refine jt ?_
    refine c_ret ?_
    exact j_end (own0 := []) (ro0 := [tIf 5 eu ev, tIf 6 ru rv]) (.inl rfl) rfl (hr2 Tryd.results62 (rvt (v := (.int _ _)) rfl) (rvt (v := .nilIface) rfl)) [] [] [] [] [] _ rfl rfl (by kernel_rfl) rfl impl_nil (.inl ⟨_, hp1, rfl, rfl, rfl⟩)
  · refine ⟨trivial, ?_⟩
    refine mv (.tuple _) rfl ?_
    refine xtr (.int _ _) rfl rfl ?_
    refine xtr (.iface _ _) rfl rfl ?_
    refine asg (.int _ _) rfl ?_
    refine asg (.iface _ _) rfl ?_
    refine jt ?_
    refine c_seq ?_
    refine c_seq ?_
    refine c_reg ?_
    refine mv (.iface _ _) rfl ?_
    refine eqin true rfl rfl Tryd.underlying80 rfl ?_
    refine jt ?_
    refine c_true rfl ?_
    refine c_seq ?_
    refine c_reg ?_
    refine mv (.int _ _) rfl ?_
    refine mv (.string _) rfl ?_
    refine mv (.int _ _) rfl ?_
    refine mv (.int _ _) rfl ?_
    refine mv (.iface _ _) rfl ?_
    refine cal (toError1_ct ([80, 97, 114, 115, 101, 85, 105, 110, 116] : Str) w 10 64 (by omega) eu ev ru rv) [] [] [] rfl rfl rfl (by kernel_rfl) (impl_cons (impl_at 0 rfl) (impl_cons (impl_at 1 rfl) impl_nil)) rfl ?_; rintro _ _ _ ⟨tu2, tv2, rfl, rfl, rfl⟩; refine ⟨trivial, ?_⟩
    refine asg (.int _ _) rfl ?_
    refine asg (.iface _ _) rfl ?_
    refine jt ?_
    refine c_ret ?_
    exact j_end (own0 := []) (ro0 := [tIf 5 eu ev, tIf 6 ru rv]) (.inl rfl) rfl (hr2 Tryd.results62 (rvt (v := (.int _ _)) rfl) (rvt (v := (.iface _ _)) rfl)) [] [] [] [] [] _ rfl rfl (by kernel_rfl) rfl impl_nil (.inr ⟨hp1, _, _, _, rfl, rfl, rfl⟩)
  · refine ⟨trivial, ?_⟩
    refine mv (.tuple _) rfl ?_
    refine xtr (.int _ _) rfl rfl ?_
    refine xtr (.iface _ _) rfl rfl ?_
    refine asg (.int _ _) rfl ?_
    refine asg (.iface _ _) rfl ?_
    refine jt ?_
    refine c_seq ?_
    refine c_seq ?_
    refine c_reg ?_
    refine mv (.iface _ _) rfl ?_
    refine eqin true rfl rfl Tryd.underlying80 rfl ?_
    refine jt ?_
    refine c_true rfl ?_
    refine c_seq ?_
    refine c_reg ?_
    refine mv (.int _ _) rfl ?_
    refine mv (.string _) rfl ?_
    refine mv (.int _ _) rfl ?_
    refine mv (.int _ _) rfl ?_
    refine mv (.iface _ _) rfl ?_
    refine cal (toError2_ct ([80, 97, 114, 115, 101, 85, 105, 110, 116] : Str) w 10 64 (by omega) eu ev ru rv) [] [] [] rfl rfl rfl (by kernel_rfl) (impl_cons (impl_at 0 rfl) (impl_cons (impl_at 1 rfl) impl_nil)) rfl ?_; rintro _ _ _ ⟨tu3, tv3, rfl, rfl, rfl⟩; refine ⟨trivial, ?_⟩
    refine asg (.int _ _) rfl ?_
    refine asg (.iface _ _) rfl ?_
    refine jt ?_
    refine c_ret ?_
    exact j_end (own0 := []) (ro0 := [tIf 5 eu ev, tIf 6 ru rv]) (.inl rfl) rfl (hr2 Tryd.results62 (rvt (v := (.int _ _)) rfl) (rvt (v := (.iface _ _)) rfl)) [] [] [] [] [] _ rfl rfl (by kernel_rfl) rfl impl_nil (.inr ⟨hp1, _, _, _, rfl, rfl, rfl⟩)
end Go.Proofs.YthpbiamicidakaaDoor
namespace Go.Proofs.YthpbiamicidakaaDoor
open Go Go.Proofs Go.PW
open Go.PW.Enc (enc val)
theorem ty4 : Ty Tryd.prog 4 1 false := ⟨by kernel_rfl, by kernel_rfl⟩
set_option maxRecDepth 20000 in
set_option maxHeartbeats 4000000 in
theorem begin_bad (b : Nat) (s : Str) (p : Nat) (hs : s.length ≤ 140737488351232) (hp : p ≤ s.length) : Ct Tryd.prog 59 [.pointer (some ⟨b, 0, none⟩)] [[(b, .cells (cat [pt s, p1 (.int .i64 ((p : Nat) : Int)), p1 (.bool true)]) 56)]] [] (fun v o r => v = .bool false ∧ o = [[(b, .cells (cat [pt s, p1 (.int .i64 ((p : Nat) : Int)), p1 (.bool true)]) 56)]] ∧ r = []) := by
  refine ct_enter Tryd.func59 rfl Tryd.ntmps59 (by kernel_rfl) rfl fun w0 => ?_
  refine c_seq ?_
  refine c_reg ?_
  refine asg (.bool _) rfl ?_
  refine jt ?_
  refine c_seq ?_
  refine c_seq ?_
  refine c_dr [_] [] [(0, 0), (1, 0), (2, 0), (3, 0), (4, 0), (5, 0), (6, 0), (7, 0), (8, 0), (9, 0), (10, 0), (11, 0), (12, 0), (13, 0), (14, 0), (15, 0), (16, 0), (17, 0), (18, 0), (19, 0), (20, 0), (21, 0), (22, 0), (23, 0), (24, 0), (25, 0), (26, 0), (27, 0)] follows (by kernel_rfl) calm_body (keepS [0] rfl) ?_
  refine mv (.pointer _) rfl ?_
  refine nlc rfl ?_
  refine fad rfl Tryd.underlying56 rfl ty4.sz ?_
  refine ldp 0 2 _ rfl rfl rfl rfl ty4 ?_
  refine mv (.bool _) rfl ?_
  refine g_off rfl rfl rfl rfl ?_
  refine g_off rfl rfl rfl rfl ?_
  refine g_off rfl rfl rfl rfl ?_
  refine g_off rfl rfl rfl rfl ?_
  refine g_off rfl rfl rfl rfl ?_
  refine g_off rfl rfl rfl rfl ?_
  refine g_off rfl rfl rfl rfl ?_
  refine g_off rfl rfl rfl rfl ?_
  refine g_off rfl rfl rfl rfl ?_
  refine g_off rfl rfl rfl rfl ?_
  refine pkt (.bool _) rfl rfl ?_
  refine mv (.bool _) rfl ?_
  refine g_off rfl rfl rfl rfl ?_
  refine g_off rfl rfl rfl rfl ?_
  refine g_off rfl rfl rfl rfl ?_
  refine g_off rfl rfl rfl rfl ?_
  refine g_off rfl rfl rfl rfl ?_
  refine g_off rfl rfl rfl rfl ?_
  refine g_off rfl rfl rfl rfl ?_
  refine g_off rfl rfl rfl rfl ?_
  refine g_off rfl rfl rfl rfl ?_
  refine g_off rfl rfl rfl rfl ?_
  refine pkt (.bool _) rfl rfl ?_
  refine jt ?_
  refine c_true rfl ?_
  refine c_seq ?_
  refine c_reg ?_
  refine mv (.pointer _) rfl ?_
  refine nlc rfl ?_
  refine fad rfl Tryd.underlying56 rfl ty4.sz ?_
  refine stp 0 2 _ (p1 (.bool true)) rfl rfl rfl rfl rfl rfl ty4 ⟨trivial, ?_⟩
  refine jt ?_
  refine c_seq ?_
  refine c_reg ?_
  refine asg (.bool _) rfl ?_
  refine jt ?_
  refine c_ret ?_
  exact j_end (own0 := [[(b, .cells (cat [pt s, p1 (.int .i64 ((p : Nat) : Int)), p1 (.bool true)]) 56)]]) (ro0 := []) (.inl rfl) rfl (hr1 Tryd.results59 (rvt (v := (.bool _)) rfl)) [0] [] [_] [] [] _ rfl rfl (by kernel_rfl) rfl impl_nil (⟨rfl, rfl, rfl⟩)
set_option maxRecDepth 20000 in
set_option maxHeartbeats 4000000 in
theorem begin_ct (b : Nat) (s : Str) (p : Nat) (hs : s.length ≤ 140737488351232) (hp : p ≤ s.length) : Ct Tryd.prog 59 [.pointer (some ⟨b, 0, none⟩)] [[(b, .cells (cat [pt s, p1 (.int .i64 ((p : Nat) : Int)), p1 (.bool false)]) 56)]] [] (fun v o r => (blk s p = true ∧ v = .bool true ∧ o = [[(b, .cells (cat [pt s, p1 (.int .i64 (((p + 1) : Nat) : Int)), p1 (.bool false)]) 56)]] ∧ r = []) ∨ (blk s p = false ∧ v = .bool false ∧ o = [[(b, .cells (cat [pt s, p1 (.int .i64 ((p : Nat) : Int)), p1 (.bool true)]) 56)]] ∧ r = [])) := by
  refine ct_enter Tryd.func59 rfl Tryd.ntmps59 (by kernel_rfl) rfl fun w0 => ?_
  refine c_seq ?_
  refine c_reg ?_
  refine asg (.bool _) rfl ?_
  refine jt ?_
  refine c_seq ?_
  refine c_seq ?_
  refine c_dr [_] [] [(0, 0), (1, 0), (2, 0), (3, 0), (4, 0), (5, 0), (6, 0), (7, 0), (8, 0), (9, 0), (10, 0), (11, 0), (12, 0), (13, 0), (14, 0), (15, 0), (16, 0), (17, 0), (18, 0), (19, 0), (20, 0), (21, 0), (22, 0), (23, 0), (24, 0), (25, 0), (26, 0), (27, 0)] follows (by kernel_rfl) calm_body (keepS [0] rfl) ?_
  refine mv (.pointer _) rfl ?_
  refine nlc rfl ?_
  refine fad rfl Tryd.underlying56 rfl ty4.sz ?_
  refine ldp 0 2 _ rfl rfl rfl rfl ty4 ?_
  refine mv (.bool _) rfl ?_
  refine g_on rfl rfl rfl ?_
  refine mv (.pointer _) rfl ?_
  refine g_on rfl rfl rfl ?_
  refine nlc rfl ?_
  refine g_on rfl rfl rfl ?_
  refine fad rfl Tryd.underlying56 rfl ty3.sz ?_
  refine g_on rfl rfl rfl ?_
  refine ldp 0 1 _ rfl rfl rfl rfl ty3 ?_
  refine g_on rfl rfl rfl ?_
  refine mv (.pointer _) rfl ?_
  refine g_on rfl rfl rfl ?_
  refine nlc rfl ?_
  refine g_on rfl rfl rfl ?_
  refine fad rfl Tryd.underlying56 rfl ty9.sz ?_
  refine g_on rfl rfl rfl ?_
  refine ldp 0 0 _ rfl rfl rfl rfl ty9 ?_
  refine g_on rfl rfl rfl ?_
  refine lenT (s := s) rfl Tryd.underlying9 ?_
  refine g_on rfl rfl rfl ?_
  refine cmp _ rfl rfl rfl ?_
  refine pkf (.bool _) rfl rfl ?_
  refine mv (.bool _) rfl ?_
  refine jsplit 19 rfl (fun h1 => ?_) (fun h1 => ?_)
  · replace h1 := of_decide_eq_true h1
    refine g_off rfl rfl rfl rfl ?_
    refine g_off rfl rfl rfl rfl ?_
    refine g_off rfl rfl rfl rfl ?_
    refine g_off rfl rfl rfl rfl ?_
    refine g_off rfl rfl rfl rfl ?_
    refine g_off rfl rfl rfl rfl ?_
    refine g_off rfl rfl rfl rfl ?_
    refine g_off rfl rfl rfl rfl ?_
    refine g_off rfl rfl rfl rfl ?_
    refine g_off rfl rfl rfl rfl ?_
    refine pkt (.bool _) rfl rfl ?_
    refine jt ?_
    refine c_true rfl ?_
    refine c_seq ?_
    refine c_reg ?_
    refine mv (.pointer _) rfl ?_
    refine nlc rfl ?_
    refine fad rfl Tryd.underlying56 rfl ty4.sz ?_
    refine stp 0 2 _ (p1 (.bool true)) rfl rfl rfl rfl rfl rfl ty4 ⟨trivial, ?_⟩
    refine jt ?_
    refine c_seq ?_
    refine c_reg ?_
    refine asg (.bool _) rfl ?_
    refine jt ?_
    refine c_ret ?_
    exact j_end (own0 := [[(b, .cells (cat [pt s, p1 (.int .i64 ((p : Nat) : Int)), p1 (.bool false)]) 56)]]) (ro0 := []) (.inl rfl) rfl (hr1 Tryd.results59 (rvt (v := (.bool _)) rfl)) [0] [] [_] [] [] _ rfl rfl (by kernel_rfl) rfl impl_nil (.inr ⟨blk_out (by omega), rfl, rfl, rfl⟩)
  · replace h1 := of_decide_eq_false h1
    refine g_on rfl rfl rfl ?_
    refine mv (.pointer _) rfl ?_
    refine g_on rfl rfl rfl ?_
    refine nlc rfl ?_
    refine g_on rfl rfl rfl ?_
    refine fad rfl Tryd.underlying56 rfl ty9.sz ?_
    refine g_on rfl rfl rfl ?_
    refine ldp 0 0 _ rfl rfl rfl rfl ty9 ?_
    refine g_on rfl rfl rfl ?_
    refine mv (.pointer _) rfl ?_
    refine g_on rfl rfl rfl ?_
    refine nlc rfl ?_
    refine g_on rfl rfl rfl ?_
    refine fad rfl Tryd.underlying56 rfl ty3.sz ?_
    refine g_on rfl rfl rfl ?_
    refine ldp 0 1 _ rfl rfl rfl rfl ty3 ?_
    refine g_on rfl rfl rfl ?_
    refine idxT (s := s) p rfl rfl Tryd.underlying9 rfl (by first | omega | (simp; done) | (simp; omega) | (simp at *; omega)) ?_
    refine g_on rfl rfl rfl ?_
    refine equ8 (a := (List.getD s p 0)) (b := (32 : UInt8)) _ rfl rfl rfl ?_
    refine pkf (.bool _) rfl rfl ?_
    refine jt ?_
    refine c_cond rfl (fun h2 => ?_) (fun h2 => ?_)
    · replace h2 := ndt h2
      refine c_seq ?_
      refine c_reg ?_
      refine mv (.pointer _) rfl ?_
      refine nlc rfl ?_
      refine fad rfl Tryd.underlying56 rfl ty4.sz ?_
      refine stp 0 2 _ (p1 (.bool true)) rfl rfl rfl rfl rfl rfl ty4 ⟨trivial, ?_⟩
      refine jt ?_
      refine c_seq ?_
      refine c_reg ?_
      refine asg (.bool _) rfl ?_
      refine jt ?_
      refine c_ret ?_
      exact j_end (own0 := [[(b, .cells (cat [pt s, p1 (.int .i64 ((p : Nat) : Int)), p1 (.bool false)]) 56)]]) (ro0 := []) (.inl rfl) rfl (hr1 Tryd.results59 (rvt (v := (.bool _)) rfl)) [0] [] [_] [] [] _ rfl rfl (by kernel_rfl) rfl impl_nil (.inr ⟨blk_no (by assumption), rfl, rfl, rfl⟩)
    · replace h2 := ndf h2
      refine c_skip ?_
      refine e_then ?_
      refine c_seq ?_
      refine c_reg ?_
      refine mv (.pointer _) rfl ?_
      refine nlc rfl ?_
      refine fad rfl Tryd.underlying56 rfl ty3.sz ?_
      refine ldp 0 1 _ rfl rfl rfl rfl ty3 ?_
      refine addi rfl rfl rfl (by omega) ?_
      refine nlc rfl ?_
      refine fad rfl Tryd.underlying56 rfl ty3.sz ?_
      refine stp 0 1 _ (p1 (.int .i64 (((p : Nat) : Int) + 1))) rfl rfl rfl rfl rfl rfl ty3 ⟨trivial, ?_⟩
      refine jt ?_
      refine c_seq ?_
      refine c_reg ?_
      refine asg (.bool _) rfl ?_
      refine jt ?_
      refine c_ret ?_
      exact j_end (own0 := [[(b, .cells (cat [pt s, p1 (.int .i64 ((p : Nat) : Int)), p1 (.bool false)]) 56)]]) (ro0 := []) (.inl rfl) rfl (hr1 Tryd.results59 (rvt (v := (.bool _)) rfl)) [0] [] [_] [] [] _ rfl rfl (by kernel_rfl) rfl impl_nil (.inl ⟨blk_yes (by omega) (by assumption), rfl, rfl, rfl⟩)
theorem word_rct (b : Nat) (s : Str) (p : Nat) (bad : Bool) (hs : s.length ≤ 140737488351232) (hp : p ≤ s.length) : Ct Tryd.prog 29 [.pointer (some ⟨b, 0, none⟩)] [] [[(b, .cells (cat [pt s, p1 (.int .i64 ((p : Nat) : Int)), p1 (.bool bad)]) 56)]] (fun v o r => v = strV (word s p) ∧ o = [] ∧ r = []) := by
  refine ct_enter Tryd.func29 rfl Tryd.ntmps29 (by kernel_rfl) rfl fun w0 => ?_
  refine c_seq ?_
  refine c_reg ?_
  refine asg (.string _) rfl ?_
  refine jt ?_
  refine c_seq ?_
  refine c_dr [_] [] [(0, 0), (1, 0), (2, 0), (3, 0), (4, 0), (5, 0), (6, 0), (7, 0), (8, 0), (9, 1), (10, 0), (11, 0), (12, 0), (13, 0), (14, 0), (15, 0), (16, 0)] follows (by kernel_rfl) calm_body (keepS [0] rfl) ?_
  refine mv (.pointer _) rfl ?_
  refine nlc rfl ?_
  refine fad rfl Tryd.underlying56 rfl ty9.sz ?_
  refine ldp 0 0 _ rfl rfl rfl rfl ty9 ?_
  refine mv (.pointer _) rfl ?_
  refine nlc rfl ?_
  refine fad rfl Tryd.underlying56 rfl ty3.sz ?_
  refine ldp 0 1 _ rfl rfl rfl rfl ty3 ?_
  refine cutT (s := s) p s.length rfl Tryd.underlying9 ⟨_, rfl⟩ rfl (by omega) (by omega) (List.drop p s) (cut_hi _ _) ?_
  refine cal (sCut_ct (List.drop p s) (by simp; omega)) [] [] [] rfl rfl rfl (by kernel_rfl) impl_nil rfl ?_; rintro _ _ _ ⟨ca1, cf1, rfl, rfl, rfl⟩; refine ⟨keepI [0] rfl, ?_⟩
  refine mv (.tuple _) rfl ?_
  refine xtr (.string _) rfl rfl ?_
  refine xtr (.string _) rfl rfl ?_
  refine xtr (.bool _) rfl rfl ?_
  refine asg (.string _) rfl ?_
  refine asg (.string _) rfl ?_
  refine asg (.bool _) rfl ?_
  refine jt ?_
  refine c_seq ?_
  refine c_reg ?_
  refine mv (.string _) rfl ?_
  refine asg (.string _) rfl ?_
  refine jt ?_
  refine c_ret ?_
  exact j_end (own0 := []) (ro0 := [[(b, .cells (cat [pt s, p1 (.int .i64 ((p : Nat) : Int)), p1 (.bool bad)]) 56)]]) (.inl rfl) rfl (hr1 Tryd.results29 (rvt (v := (.string _)) rfl)) [] [] [] [] [] _ rfl rfl (by kernel_rfl) rfl impl_nil (⟨rfl, rfl, rfl⟩)
theorem took_ct (b : Nat) (s : Str) (p n : Nat) (ok : Bool) (hs : p + n ≤ 140737488351232) : Ct Tryd.prog 61 [.pointer (some ⟨b, 0, none⟩), .int .i64 (n : Int), .bool ok] [[(b, .cells (cat [pt s, p1 (.int .i64 ((p : Nat) : Int)), p1 (.bool false)]) 56)]] [] (fun v o r => (ok = true ∧ v = .tuple #[] ∧ o = [[(b, .cells (cat [pt s, p1 (.int .i64 (((p + n) : Nat) : Int)), p1 (.bool false)]) 56)]] ∧ r = []) ∨ (ok = false ∧ v = .tuple #[] ∧ o = [[(b, .cells (cat [pt s, p1 (.int .i64 ((p : Nat) : Int)), p1 (.bool true)]) 56)]] ∧ r = [])) := by
  refine ct_enter Tryd.func61 rfl Tryd.ntmps61 (by kernel_rfl) rfl fun w0 => ?_
  refine c_seq ?_
  refine c_seq ?_
  refine c_reg ?_
  refine mv (.bool _) rfl ?_
  refine not_ rfl ?_
  refine jt ?_
  refine c_cond rfl (fun h1 => ?_) (fun h1 => ?_)
  · refine c_seq ?_
    refine c_reg ?_
    refine mv (.pointer _) rfl ?_
    refine nlc rfl ?_
    refine fad rfl Tryd.underlying56 rfl ty4.sz ?_
    refine stp 0 2 _ (p1 (.bool true)) rfl rfl rfl rfl rfl rfl ty4 ⟨trivial, ?_⟩
    refine jt ?_
    refine c_ret ?_
    exact j_end (own0 := [[(b, .cells (cat [pt s, p1 (.int .i64 ((p : Nat) : Int)), p1 (.bool false)]) 56)]]) (ro0 := []) (.inl rfl) rfl (hr0 Tryd.results61) [0] [] [_] [] [] _ rfl rfl (by kernel_rfl) rfl impl_nil (.inr ⟨by simpa using h1, rfl, rfl, rfl⟩)
  · refine c_skip ?_
    refine e_then ?_
    refine c_reg ?_
    refine mv (.pointer _) rfl ?_
    refine nlc rfl ?_
    refine fad rfl Tryd.underlying56 rfl ty3.sz ?_
    refine ldp 0 1 _ rfl rfl rfl rfl ty3 ?_
    refine mv (.int _ _) rfl ?_
    refine addi rfl rfl rfl (by omega) ?_
    refine nlc rfl ?_
    refine fad rfl Tryd.underlying56 rfl ty3.sz ?_
    refine stp 0 1 _ (p1 (.int .i64 (((p : Nat) : Int) + (n : Int)))) rfl rfl rfl rfl rfl rfl ty3 ⟨trivial, ?_⟩
    refine jn ?_
    exact j_end (own0 := [[(b, .cells (cat [pt s, p1 (.int .i64 ((p : Nat) : Int)), p1 (.bool false)]) 56)]]) (ro0 := []) (.inr rfl) rfl (hr0 Tryd.results61) [0] [] [_] [] [] _ rfl rfl (by kernel_rfl) rfl impl_nil (.inl ⟨by simpa using h1, rfl, rfl, rfl⟩)
end Go.Proofs.YthpbiamicidakaaDoor
namespace Go.Proofs.YthpbiamicidakaaDoor
open Go Go.Proofs Go.PW
open Go.PW.Enc (enc val)
theorem took_t (b : Nat) (s : Str) (p n : Nat) (hs : p + n ≤ 140737488351232) : Ct Tryd.prog 61 [.pointer (some ⟨b, 0, none⟩), .int .i64 (n : Int), .bool true] [[(b, .cells (cat [pt s, p1 (.int .i64 ((p : Nat) : Int)), p1 (.bool false)]) 56)]] [] (fun v o r => v = .tuple #[] ∧ o = [[(b, .cells (cat [pt s, p1 (.int .i64 (((p + n) : Nat) : Int)), p1 (.bool false)]) 56)]] ∧ r = []) := by
  refine (took_ct b s p n true hs).mono fun v o r h => ?_
  rcases h with h | h
  · exact h.2
  · cases h.1
theorem took_f (b : Nat) (s : Str) (p n : Nat) (hs : p + n ≤ 140737488351232) : Ct Tryd.prog 61 [.pointer (some ⟨b, 0, none⟩), .int .i64 (n : Int), .bool false] [[(b, .cells (cat [pt s, p1 (.int .i64 ((p : Nat) : Int)), p1 (.bool false)]) 56)]] [] (fun v o r => v = .tuple #[] ∧ o = [[(b, .cells (cat [pt s, p1 (.int .i64 ((p : Nat) : Int)), p1 (.bool true)]) 56)]] ∧ r = []) := by
  refine (took_ct b s p n false hs).mono fun v o r h => ?_
  rcases h with h | h
  · cases h.1
  · exact h.2
set_option maxRecDepth 20000 in
set_option maxHeartbeats 4000000 in
theorem number_bad (b : Nat) (s : Str) (p : Nat) (hs : s.length ≤ 140737488351232) (hp : p ≤ s.length) (l m : UInt64) : Ct Tryd.prog 33 [.pointer (some ⟨b, 0, none⟩), .int .u64 (l.toNat : Int), .int .u64 (m.toNat : Int)] [[(b, .cells (cat [pt s, p1 (.int .i64 ((p : Nat) : Int)), p1 (.bool true)]) 56)]] [] (fun v o r => ∃ n : UInt64, v = .int .u64 (n.toNat : Int) ∧ o = [[(b, .cells (cat [pt s, p1 (.int .i64 ((p : Nat) : Int)), p1 (.bool true)]) 56)]] ∧ r = []) := by
  refine ct_enter Tryd.func33 rfl Tryd.ntmps33 (by kernel_rfl) rfl fun w0 => ?_
  refine c_seq ?_
  refine c_reg ?_
  refine asg (.int _ _) rfl ?_
  refine jt ?_
  refine c_seq ?_
  refine c_seq ?_
  refine c_reg ?_
  refine mv (.pointer _) rfl ?_
  refine cal (begin_bad b s p (by omega) (by omega)) [0] [] [] rfl rfl rfl (by kernel_rfl) impl_nil rfl ?_; rintro _ _ _ ⟨rfl, rfl, rfl⟩; refine ⟨trivial, ?_⟩
  refine not_ rfl ?_
  refine jt ?_
  refine c_true rfl ?_
  refine c_seq ?_
  refine c_reg ?_
  refine asg (.int _ _) rfl ?_
  refine jt ?_
  refine c_ret ?_
  exact j_end (own0 := [[(b, .cells (cat [pt s, p1 (.int .i64 ((p : Nat) : Int)), p1 (.bool true)]) 56)]]) (ro0 := []) (.inl rfl) rfl (hr1 Tryd.results33 (rvt (v := (.int _ _)) rfl)) [0] [] [_] [] [] _ rfl rfl (by kernel_rfl) rfl impl_nil (⟨(0 : UInt64), rfl, rfl, rfl⟩)
set_option maxRecDepth 20000 in
set_option maxHeartbeats 4000000 in
theorem number_ct (b : Nat) (s : Str) (p : Nat) (hs : s.length ≤ 140737488351232) (hp : p ≤ s.length) (l m : UInt64) (eu : TypeId) (ev : Value) (ru : TypeId) (rv : Value) : Ct Tryd.prog 33 [.pointer (some ⟨b, 0, none⟩), .int .u64 (l.toNat : Int), .int .u64 (m.toNat : Int)] [[(b, .cells (cat [pt s, p1 (.int .i64 ((p : Nat) : Int)), p1 (.bool false)]) 56)]] [tPow10 3, tIf 5 eu ev, tIf 6 ru rv] (fun v o r => (∃ (n : UInt64) (q : Nat), numR s l.toNat m.toNat p = .inr (n.toNat, q) ∧ v = .int .u64 (n.toNat : Int) ∧ o = [[(b, .cells (cat [pt s, p1 (.int .i64 ((q : Nat) : Int)), p1 (.bool false)]) 56)]] ∧ r = []) ∨ (∃ (n : UInt64) (q : Nat), numR s l.toNat m.toNat p = .inl q ∧ q ≤ s.length ∧ v = .int .u64 (n.toNat : Int) ∧ o = [[(b, .cells (cat [pt s, p1 (.int .i64 ((q : Nat) : Int)), p1 (.bool true)]) 56)]] ∧ r = [])) := by
  have HWL := wlen_le s (p + 1)
  have HWW := word_length s (p + 1)
  refine ct_enter Tryd.func33 rfl Tryd.ntmps33 (by kernel_rfl) rfl fun w0 => ?_
  refine c_seq ?_
  refine c_reg ?_
  refine asg (.int _ _) rfl ?_
  refine jt ?_
  refine c_seq ?_
  refine c_seq ?_
  refine c_reg ?_
  refine mv (.pointer _) rfl ?_
  refine cal (begin_ct b s p (by omega) (by omega)) [0] [] [] rfl rfl rfl (by kernel_rfl) impl_nil rfl ?_; rintro _ _ _ (⟨hbl1, rfl, rfl, rfl⟩ | ⟨hbl1, rfl, rfl, rfl⟩)
  · have hpl1 := blk_lt hbl1; refine ⟨trivial, ?_⟩
    refine not_ rfl ?_
    refine jt ?_
    refine c_false rfl ?_
    refine c_skip ?_
    refine e_then ?_
    refine c_seq ?_
    refine c_reg ?_
    refine mv (.pointer _) rfl ?_
    refine cal (word_rct b s (p + 1) false (by omega) (by omega)) [] [0] [_] rfl rfl rfl (by kernel_rfl) (impl_cons (impl_at 3 rfl) impl_nil) rfl ?_; rintro _ _ _ ⟨rfl, rfl, rfl⟩; refine ⟨trivial, ?_⟩
    refine asg (.string _) rfl ?_
    refine jt ?_
    refine c_seq ?_
    refine c_reg ?_
    refine mv (.string _) rfl ?_
    refine cal (sParseUint_ct (word s (p + 1)) (by omega) eu ev ru rv) [] [0] [_] rfl rfl rfl (by kernel_rfl) (impl_cons (impl_at 1 rfl) (impl_cons (impl_at 2 rfl) impl_nil)) rfl ?_; rintro _ _ _ (⟨sn2, hs2, rfl, rfl, rfl⟩ | ⟨hs2, sn2, su2, sx2, rfl, rfl, rfl⟩)
    · refine ⟨trivial, ?_⟩
      refine mv (.tuple _) rfl ?_
      refine xtr (.int _ _) rfl rfl ?_
      refine xtr .nilIface rfl rfl ?_
      refine asg (.int _ _) rfl ?_
      refine asg .nilIface rfl ?_
      refine jt ?_
      refine c_seq ?_
      refine c_reg ?_
      refine mv (.pointer _) rfl ?_
      refine mv (.string _) rfl ?_
      refine lenT (s := (word s (p + 1))) rfl Tryd.underlying9 ?_
      refine mv .nilIface rfl ?_
      refine eqnn true rfl Tryd.underlying80 rfl ?_
      refine mv (.bool _) rfl ?_
      refine g_on rfl rfl rfl ?_
      refine mv (.int _ _) rfl ?_
      refine g_on rfl rfl rfl ?_
      refine cal (sFormatUint10_ct sn2) [] [0] [_] rfl rfl rfl (by kernel_rfl) (impl_cons (impl_at 0 rfl) impl_nil) rfl ?_; rintro _ _ _ ⟨rfl, rfl, rfl⟩; refine ⟨trivial, ?_⟩
      refine g_on rfl rfl rfl ?_
      refine mv (.string _) rfl ?_
      refine g_on rfl rfl rfl ?_
      refine scmp (a := (fmtN 10 sn2.toNat)) (b := (word s (p + 1))) _ rfl rfl Tryd.underlying9 rfl ?_
      refine pkt (.bool _) rfl rfl ?_
      refine mv (.bool _) rfl ?_
      refine jsplit 31 rfl (fun h1 => ?_) (fun h1 => ?_)
      · replace h1 := of_decide_eq_true h1
        refine g_on rfl rfl rfl ?_
        refine mv (.int _ _) rfl ?_
        refine g_on rfl rfl rfl ?_
        refine mv (.int _ _) rfl ?_
        refine g_on rfl rfl rfl ?_
        refine cmp _ rfl rfl rfl ?_
        refine pkt (.bool _) rfl rfl ?_
        refine mv (.bool _) rfl ?_
        refine jsplit 36 rfl (fun h2 => ?_) (fun h2 => ?_)
        · replace h2 := of_decide_eq_true h2
          refine g_on rfl rfl rfl ?_
          refine mv (.int _ _) rfl ?_
          refine g_on rfl rfl rfl ?_
          refine mv (.int _ _) rfl ?_
          refine g_on rfl rfl rfl ?_
          refine cmp _ rfl rfl rfl ?_
          refine pkt (.bool _) rfl rfl ?_
          refine cal (took_ct b s (p + 1) ((word s (p + 1)).length) (decide ((sn2.toNat : Int) ≤ (m.toNat : Int))) (by omega)) [0] [] [] rfl rfl rfl (by kernel_rfl) impl_nil rfl ?_; rintro _ _ _ (⟨htk3, rfl, rfl, rfl⟩ | ⟨htk3, rfl, rfl, rfl⟩)
          · replace htk3 := of_decide_eq_true htk3; refine ⟨trivial, ?_⟩
            refine jt ?_
            refine c_seq ?_
            refine c_reg ?_
            refine mv (.int _ _) rfl ?_
            refine asg (.int _ _) rfl ?_
            refine jt ?_
            refine c_ret ?_
            exact j_end (own0 := [[(b, .cells (cat [pt s, p1 (.int .i64 ((p : Nat) : Int)), p1 (.bool false)]) 56)]]) (ro0 := [tPow10 3, tIf 5 eu ev, tIf 6 ru rv]) (.inl rfl) rfl (hr1 Tryd.results33 (rvt (v := (.int _ _)) rfl)) [0] [] [_] [] [] _ rfl rfl (by kernel_rfl) rfl impl_nil (.inl ⟨_, _, by rw [word_length]; exact numR_ok (by assumption) (by rw [← (show fmtN 10 _ = word s (p + 1) by assumption)]; exact pnum_fmt (by omega) (by omega) (UInt64.toNat_lt _)) (by omega), rfl, rfl, rfl⟩)
          · replace htk3 := of_decide_eq_false htk3; refine ⟨trivial, ?_⟩
            refine jt ?_
            refine c_seq ?_
            refine c_reg ?_
            refine mv (.int _ _) rfl ?_
            refine asg (.int _ _) rfl ?_
            refine jt ?_
            refine c_ret ?_
            exact j_end (own0 := [[(b, .cells (cat [pt s, p1 (.int .i64 ((p : Nat) : Int)), p1 (.bool false)]) 56)]]) (ro0 := [tPow10 3, tIf 5 eu ev, tIf 6 ru rv]) (.inl rfl) rfl (hr1 Tryd.results33 (rvt (v := (.int _ _)) rfl)) [0] [] [_] [] [] _ rfl rfl (by kernel_rfl) rfl impl_nil (.inr ⟨_, _, numR_bad (by assumption) (fun k hk hb => by have h8 := m.toNat_lt; have e := pnum_some hk; first | exact absurd e (hs2 k (by omega)) | (have h9 := hs2 k (by omega) e; rw [← h9] at e; first | (exact absurd e.symm (by assumption)) | omega)), by omega, rfl, rfl, rfl⟩)
        · replace h2 := of_decide_eq_false h2
          refine g_off rfl rfl rfl rfl ?_
          refine g_off rfl rfl rfl rfl ?_
          refine g_off rfl rfl rfl rfl ?_
          refine pkf (.bool _) rfl rfl ?_
          refine cal (took_f b s (p + 1) ((word s (p + 1)).length) (by omega)) [0] [] [] rfl rfl rfl (by kernel_rfl) impl_nil rfl ?_; rintro _ _ _ ⟨rfl, rfl, rfl⟩; refine ⟨trivial, ?_⟩
          refine jt ?_
          refine c_seq ?_
          refine c_reg ?_
          refine mv (.int _ _) rfl ?_
          refine asg (.int _ _) rfl ?_
          refine jt ?_
          refine c_ret ?_
          exact j_end (own0 := [[(b, .cells (cat [pt s, p1 (.int .i64 ((p : Nat) : Int)), p1 (.bool false)]) 56)]]) (ro0 := [tPow10 3, tIf 5 eu ev, tIf 6 ru rv]) (.inl rfl) rfl (hr1 Tryd.results33 (rvt (v := (.int _ _)) rfl)) [0] [] [_] [] [] _ rfl rfl (by kernel_rfl) rfl impl_nil (.inr ⟨_, _, numR_bad (by assumption) (fun k hk hb => by have h8 := m.toNat_lt; have e := pnum_some hk; first | exact absurd e (hs2 k (by omega)) | (have h9 := hs2 k (by omega) e; rw [← h9] at e; first | (exact absurd e.symm (by assumption)) | omega)), by omega, rfl, rfl, rfl⟩)
      · replace h1 := of_decide_eq_false h1
        refine g_off rfl rfl rfl rfl ?_
        refine g_off rfl rfl rfl rfl ?_
        refine g_off rfl rfl rfl rfl ?_
        refine pkf (.bool _) rfl rfl ?_
        refine mv (.bool _) rfl ?_
        refine g_off rfl rfl rfl rfl ?_
        refine g_off rfl rfl rfl rfl ?_
        refine g_off rfl rfl rfl rfl ?_
        refine pkf (.bool _) rfl rfl ?_
        refine cal (took_f b s (p + 1) ((word s (p + 1)).length) (by omega)) [0] [] [] rfl rfl rfl (by kernel_rfl) impl_nil rfl ?_; rintro _ _ _ ⟨rfl, rfl, rfl⟩; refine ⟨trivial, ?_⟩
        refine jt ?_
        refine c_seq ?_
        refine c_reg ?_
        refine mv (.int _ _) rfl ?_
        refine asg (.int _ _) rfl ?_
        refine jt ?_
        refine c_ret ?_
        exact j_end (own0 := [[(b, .cells (cat [pt s, p1 (.int .i64 ((p : Nat) : Int)), p1 (.bool false)]) 56)]]) (ro0 := [tPow10 3, tIf 5 eu ev, tIf 6 ru rv]) (.inl rfl) rfl (hr1 Tryd.results33 (rvt (v := (.int _ _)) rfl)) [0] [] [_] [] [] _ rfl rfl (by kernel_rfl) rfl impl_nil (.inr ⟨_, _, numR_bad (by assumption) (fun k hk hb => by have h8 := m.toNat_lt; have e := pnum_some hk; first | exact absurd e (hs2 k (by omega)) | (have h9 := hs2 k (by omega) e; rw [← h9] at e; first | (exact absurd e.symm (by assumption)) | omega)), by omega, rfl, rfl, rfl⟩)
    · refine ⟨trivial, ?_⟩
      refine mv (.tuple _) rfl ?_
      refine xtr (.int _ _) rfl rfl ?_
      refine xtr (.iface _ _) rfl rfl ?_
      refine asg (.int _ _) rfl ?_
      refine asg (.iface _ _) rfl ?_
      refine jt ?_
      refine c_seq ?_
      refine c_reg ?_
      refine mv (.pointer _) rfl ?_
      refine mv (.string _) rfl ?_
      refine lenT (s := (word s (p + 1))) rfl Tryd.underlying9 ?_
      refine mv (.iface _ _) rfl ?_
      refine eqin false rfl rfl Tryd.underlying80 rfl ?_
      refine mv (.bool _) rfl ?_
      refine g_off rfl rfl rfl rfl ?_
      refine g_off rfl rfl rfl rfl ?_
      refine g_off rfl rfl rfl rfl ?_
      refine g_off rfl rfl rfl rfl ?_
      refine pkf (.bool _) rfl rfl ?_
      refine mv (.bool _) rfl ?_
      refine g_off rfl rfl rfl rfl ?_
      refine g_off rfl rfl rfl rfl ?_
      refine g_off rfl rfl rfl rfl ?_
      refine pkf (.bool _) rfl rfl ?_
      refine mv (.bool _) rfl ?_
      refine g_off rfl rfl rfl rfl ?_
      refine g_off rfl rfl rfl rfl ?_
      refine g_off rfl rfl rfl rfl ?_
      refine pkf (.bool _) rfl rfl ?_
      refine cal (took_f b s (p + 1) ((word s (p + 1)).length) (by omega)) [0] [] [] rfl rfl rfl (by kernel_rfl) impl_nil rfl ?_; rintro _ _ _ ⟨rfl, rfl, rfl⟩; refine ⟨trivial, ?_⟩
      refine jt ?_
      refine c_seq ?_
      refine c_reg ?_
      refine mv (.int _ _) rfl ?_
      refine asg (.int _ _) rfl ?_
      refine jt ?_
      refine c_ret ?_
      exact j_end (own0 := [[(b, .cells (cat [pt s, p1 (.int .i64 ((p : Nat) : Int)), p1 (.bool false)]) 56)]]) (ro0 := [tPow10 3, tIf 5 eu ev, tIf 6 ru rv]) (.inl rfl) rfl (hr1 Tryd.results33 (rvt (v := (.int _ _)) rfl)) [0] [] [_] [] [] _ rfl rfl (by kernel_rfl) rfl impl_nil (.inr ⟨_, _, numR_bad (by assumption) (fun k hk hb => by have h8 := m.toNat_lt; have e := pnum_some hk; first | exact absurd e (hs2 k (by omega)) | (have h9 := hs2 k (by omega) e; rw [← h9] at e; first | (exact absurd e.symm (by assumption)) | omega)), by omega, rfl, rfl, rfl⟩)
  · refine ⟨trivial, ?_⟩
    refine not_ rfl ?_
    refine jt ?_
    refine c_true rfl ?_
    refine c_seq ?_
    refine c_reg ?_
    refine asg (.int _ _) rfl ?_
    refine jt ?_
    refine c_ret ?_
    exact j_end (own0 := [[(b, .cells (cat [pt s, p1 (.int .i64 ((p : Nat) : Int)), p1 (.bool false)]) 56)]]) (ro0 := [tPow10 3, tIf 5 eu ev, tIf 6 ru rv]) (.inl rfl) rfl (hr1 Tryd.results33 (rvt (v := (.int _ _)) rfl)) [0] [] [_] [] [] _ rfl rfl (by kernel_rfl) rfl impl_nil (.inr ⟨(0 : UInt64), _, numR_no (by assumption), by omega, rfl, rfl, rfl⟩)
end Go.Proofs.YthpbiamicidakaaDoor
namespace Go.Proofs.YthpbiamicidakaaDoor
open Go Go.Proofs Go.PW
open Go.PW.Enc (enc val)
set_option maxRecDepth 20000 in
set_option maxHeartbeats 4000000 in
theorem bytes_bad (b : Nat) (s : Str) (p : Nat) (hs : s.length ≤ 140737488351232) (hp : p ≤ s.length) (n : Nat) (hn0 : 0 < n) (hn : n ≤ 32) : Ct Tryd.prog 34 [.pointer (some ⟨b, 0, none⟩), .int .i64 (n : Int)] [[(b, .cells (cat [pt s, p1 (.int .i64 ((p : Nat) : Int)), p1 (.bool true)]) 56)]] [] (fun v o r => ∃ o' : Ow, ∃ xs : Str, o'.ok xs ∧ xs.length = n ∧ v = .slice o'.adr n o'.cap ∧ o = [[(b, .cells (cat [pt s, p1 (.int .i64 ((p : Nat) : Int)), p1 (.bool true)]) 56)], o'.seg xs 5] ∧ r = []) := by
  refine ct_enter Tryd.func34 rfl Tryd.ntmps34 (by kernel_rfl) rfl fun w0 => ?_
  refine c_seq ?_
  refine c_reg ?_
  refine asg (.slice _ _ _) rfl ?_
  refine jt ?_
  refine c_seq ?_
  refine c_reg ?_
  refine mv (.int _ _) rfl ?_
  refine mks (0 : UInt8) n n rfl rfl rfl rfl (Nat.le_refl _) Tryd.underlying50 ty5.sz by5 zw5 (by omega) rfl fun b11 => ⟨trivial, ?_⟩
  refine asg (.slice _ _ _) rfl ?_
  refine jt ?_
  refine c_seq ?_
  refine c_seq ?_
  refine c_reg ?_
  refine mv (.pointer _) rfl ?_
  refine cal (begin_bad b s p (by omega) (by omega)) [0] [1] [_] rfl rfl rfl (by kernel_rfl) impl_nil rfl ?_; rintro _ _ _ ⟨rfl, rfl, rfl⟩; refine ⟨trivial, ?_⟩
  refine not_ rfl ?_
  refine jt ?_
  refine c_true rfl ?_
  refine c_seq ?_
  refine c_reg ?_
  refine mv (.slice _ _ _) rfl ?_
  refine asg (.slice _ _ _) rfl ?_
  refine jt ?_
  refine c_ret ?_
  exact j_end (own0 := [[(b, .cells (cat [pt s, p1 (.int .i64 ((p : Nat) : Int)), p1 (.bool true)]) 56)]]) (ro0 := []) (.inl rfl) rfl (hr1 Tryd.results34 (rvt (v := (.slice _ _ _)) rfl)) [1, 0] [] [_, _] [] [] _ rfl rfl (by kernel_rfl) rfl impl_nil (⟨(⟨false, b11, n, encs (List.replicate (n - n) (0 : UInt8))⟩ : Ow), _, mks_ok (0 : UInt8) b11 n n (Nat.le_refl _), by simp, rfl, rfl, rfl⟩)
set_option maxRecDepth 20000 in
set_option maxHeartbeats 4000000 in
theorem bytes_ct (b : Nat) (s : Str) (p : Nat) (hs : s.length ≤ 140737488351232) (hp : p ≤ s.length) (n : Nat) (hn0 : 0 < n) (hn : n ≤ 32) : Ct Tryd.prog 34 [.pointer (some ⟨b, 0, none⟩), .int .i64 (n : Int)] [[(b, .cells (cat [pt s, p1 (.int .i64 ((p : Nat) : Int)), p1 (.bool false)]) 56)]] [] (fun v o r => (∃ (o' : Ow) (q : Nat), hexR s n p = .inr (word s (p + 1), q) ∧ o'.ok (hexb (word s (p + 1)) n) ∧ v = .slice o'.adr n o'.cap ∧ o = [[(b, .cells (cat [pt s, p1 (.int .i64 ((q : Nat) : Int)), p1 (.bool false)]) 56)], o'.seg (hexb (word s (p + 1)) n) 5] ∧ r = []) ∨ (∃ (o' : Ow) (xs : Str) (q : Nat), hexR s n p = .inl q ∧ q ≤ s.length ∧ o'.ok xs ∧ xs.length = n ∧ v = .slice o'.adr n o'.cap ∧ o = [[(b, .cells (cat [pt s, p1 (.int .i64 ((q : Nat) : Int)), p1 (.bool true)]) 56)], o'.seg xs 5] ∧ r = [])) := by
  have HWL := wlen_le s (p + 1)
  have HWW := word_length s (p + 1)
  refine ct_enter Tryd.func34 rfl Tryd.ntmps34 (by kernel_rfl) rfl fun w0 => ?_
  refine c_seq ?_
  refine c_reg ?_
  refine asg (.slice _ _ _) rfl ?_
  refine jt ?_
  refine c_seq ?_
  refine c_reg ?_
  refine mv (.int _ _) rfl ?_
  refine mks (0 : UInt8) n n rfl rfl rfl rfl (Nat.le_refl _) Tryd.underlying50 ty5.sz by5 zw5 (by omega) rfl fun b11 => ⟨trivial, ?_⟩
  refine asg (.slice _ _ _) rfl ?_
  refine jt ?_
  refine c_seq ?_
  refine c_seq ?_
  refine c_reg ?_
  refine mv (.pointer _) rfl ?_
  refine cal (begin_ct b s p (by omega) (by omega)) [0] [1] [_] rfl rfl rfl (by kernel_rfl) impl_nil rfl ?_; rintro _ _ _ (⟨hbl1, rfl, rfl, rfl⟩ | ⟨hbl1, rfl, rfl, rfl⟩)
  · have hpl1 := blk_lt hbl1; refine ⟨trivial, ?_⟩
    refine not_ rfl ?_
    refine jt ?_
    refine c_false rfl ?_
    refine c_skip ?_
    refine e_then ?_
    refine c_seq ?_
    refine c_reg ?_
    refine mv (.pointer _) rfl ?_
    refine cal (word_rct b s (p + 1) false (by omega) (by omega)) [] [0, 1] [_, _] rfl rfl rfl (by kernel_rfl) (impl_cons (impl_at 1 rfl) impl_nil) rfl ?_; rintro _ _ _ ⟨rfl, rfl, rfl⟩; refine ⟨trivial, ?_⟩
    refine asg (.string _) rfl ?_
    refine jt ?_
    refine c_seq ?_
    refine c_reg ?_
    refine mv (.string _) rfl ?_
    refine lenT (s := (word s (p + 1))) rfl Tryd.underlying9 ?_
    refine mv (.int _ _) rfl ?_
    refine muli rfl rfl rfl (by omega) ?_
    refine cmp _ rfl rfl rfl ?_
    refine asg (.bool _) rfl ?_
    refine jt ?_
    refine c_seq ?_
    refine c_seq ?_
    refine c_reg ?_
    refine asg (.int _ _) rfl ?_
    refine jt ?_
    refine c_block ?_
    refine c_loop (σ := Nat × Bool × Str) (fun (i, rt, ys) => i ≤ (word s (p + 1)).length ∧ ys.length = n ∧ (rt = true → (word s (p + 1)).length = 2 * n ∧ ys = hrow (word s (p + 1)) n i ∧ ∀ j, j < i → hexv (List.getD (word s (p + 1)) j 0) < 16) ∧ (rt = false → ¬((word s (p + 1)).length = 2 * n ∧ hexok (word s (p + 1)) = true))) (fun (i, rt, ys) => (word s (p + 1)).length - i) (fun (i, rt, ys) => [(8, .int .i64 (i : Int)), (7, .bool rt)]) (fun (i, rt, ys) => [(⟨false, b11, n, encs (List.replicate (n - n) (0 : UInt8))⟩ : Ow).seg ys 5, [(b, .cells (cat [pt s, p1 (.int .i64 (((p + 1) : Nat) : Int)), p1 (.bool false)]) 56)]]) (fun (i, rt, ys) => []) [7, 8, 9, 23, 24, 25, 26, 27, 28, 29, 30, 31, 32, 33, 34, 35, 36, 37, 38, 39, 40, 41, 42, 43, 44, 45, 46, 47, 48, 49, 50] (0, decide (((word s (p + 1)).length : Int) = 2 * (n : Int)), List.replicate n (0 : UInt8)) (⟨by omega, by simp, fun h => ⟨by have := of_decide_eq_true h; omega, (hrow_zero _ _).symm, fun j hj => by omega⟩, fun h hh => by have := of_decide_eq_false h; omega⟩) ⟨rfl, rfl, trivial⟩ rfl rfl ?_
    rintro ⟨i, rt, ys⟩ g1 hI1
    try dsimp only at hI1 ⊢
    have hyl := hI1.2.1
    have hyo : Ow.ok (⟨false, b11, n, encs (List.replicate (n - n) (0 : UInt8))⟩ : Ow) ys := hrow_ok hyl
    refine c_seq ?_
    refine c_seq ?_
    refine c_reg ?_
    refine mv (.bool _) rfl ?_
    refine mv (.bool _) rfl ?_
    refine jsplit 24 rfl (fun h1 => ?_) (fun h1 => ?_)
    · refine g_on rfl rfl rfl ?_
      refine mv (.int _ _) rfl ?_
      refine g_on rfl rfl rfl ?_
      refine mv (.string _) rfl ?_
      refine g_on rfl rfl rfl ?_
      refine lenT (s := (word s (p + 1))) rfl Tryd.underlying9 ?_
      refine g_on rfl rfl rfl ?_
      refine cmp _ rfl rfl rfl ?_
      refine pkt (.bool _) rfl rfl ?_
      refine jt ?_
      refine c_cond rfl (fun h2 => ?_) (fun h2 => ?_)
      · replace h2 := of_decide_eq_true h2
        refine c_skip ?_
        refine e_then ?_
        refine c_seq ?_
        refine c_block ?_
        refine c_seq ?_
        refine c_reg ?_
        refine mv (.string _) rfl ?_
        refine mv (.int _ _) rfl ?_
        refine idxT (s := (word s (p + 1))) i rfl rfl Tryd.underlying9 rfl (by omega) ?_
        refine cal (sIndexByte_ct hexL (List.getD (word s (p + 1)) i 0)) [] [0, 1] [_, _] rfl rfl rfl (by kernel_rfl) impl_nil rfl ?_; rintro _ _ _ ⟨rfl, rfl, rfl⟩; refine ⟨trivial, ?_⟩
        refine asg (.int _ _) rfl ?_
        refine jt ?_
        refine c_seq ?_
        refine c_reg ?_
        refine mv (.int _ _) rfl ?_
        refine cmp _ rfl rfl rfl ?_
        refine asg (.bool _) rfl ?_
        refine jt ?_
        have HIN := (hI1.2.2.1 (by assumption)).1
        refine c_reg ?_
        refine mv (.slice _ _ _) rfl ?_
        refine mv (.int _ _) rfl ?_
        refine quon (a := i) (b := 2) rfl rfl (by decide) (by omega) ?_
        refine mv (.slice _ _ _) rfl ?_
        refine mv (.int _ _) rfl ?_
        refine quon (a := i) (b := 2) rfl rfl (by decide) (by omega) ?_
        refine ixs (((⟨false, b11, n, encs (List.replicate (n - n) (0 : UInt8))⟩ : Ow)).vs) ys (i / 2) (Ow.vs_ok hyo) rfl hyl.symm rfl Tryd.underlying50 ty5.sz rfl (by have := (hI1.2.2.1 (by assumption)).1; omega) ?_
        refine ldsoG 0 (List.getD ys (i / 2) 0) hyo rfl rfl rfl rfl (getD_some (by have := (hI1.2.2.1 (by assumption)).1; omega)) ty5 ?_
        refine shlRU8 (a := (List.getD ys (i / 2) 0)) 4 rfl rfl rfl ?_
        refine mv (.int _ _) rfl ?_
        refine cvZU8 (n := (idxB hexL (List.getD (word s (p + 1)) i 0))) rfl Tryd.underlying3 Tryd.underlying5 ?_
        refine orU8 (a := (shlU8 (List.getD ys (i / 2) 0) 4)) (b := (UInt8.ofInt (idxB hexL (List.getD (word s (p + 1)) i 0)))) rfl rfl ?_
        refine ixs (((⟨false, b11, n, encs (List.replicate (n - n) (0 : UInt8))⟩ : Ow)).vs) ys (i / 2) (Ow.vs_ok hyo) rfl hyl.symm rfl Tryd.underlying50 ty5.sz rfl (by have := (hI1.2.2.1 (by assumption)).1; omega) ?_
        refine sto 0 (i / 2) ((shlU8 (List.getD ys (i / 2) 0) 4) ||| (UInt8.ofInt (idxB hexL (List.getD (word s (p + 1)) i 0)))) hyo rfl rfl rfl rfl rfl (by omega) ty5 ⟨trivial, ?_⟩
        refine jn ?_
        refine e_in ?_
        refine e_then ?_
        refine c_reg ?_
        refine mv (.int _ _) rfl ?_
        refine addi rfl rfl rfl (by omega) ?_
        refine asg (.int _ _) rfl ?_
        refine jn ?_
        exact e_loop (i + 1, decide (0 ≤ idxB hexL (List.getD (word s (p + 1)) i 0)), (ys.set (i / 2) ((shlU8 (List.getD ys (i / 2) 0) 4) ||| (UInt8.ofInt (idxB hexL (List.getD (word s (p + 1)) i 0)))))) (hrow_go hI1 (by assumption) (by omega)) (by show (word s (p + 1)).length - (i + 1) < (word s (p + 1)).length - i; omega) (⟨rfl, rfl, trivial⟩) rfl rfl rfl
      · replace h2 := of_decide_eq_false h2
        refine c_exit rfl ?_
        refine e_then ?_
        refine c_seq ?_
        obtain rfl : rt = true := by assumption
        refine c_reg ?_
        refine mv (.pointer _) rfl ?_
        refine mv (.string _) rfl ?_
        refine lenT (s := (word s (p + 1))) rfl Tryd.underlying9 ?_
        refine mv (.bool _) rfl ?_
        refine cal (took_t b s (p + 1) ((word s (p + 1)).length) (by omega)) [1] [0] [_] rfl rfl rfl (by kernel_rfl) impl_nil rfl ?_; rintro _ _ _ ⟨rfl, rfl, rfl⟩; refine ⟨trivial, ?_⟩
        refine jt ?_
        refine c_seq ?_
        refine c_reg ?_
        refine mv (.slice _ _ _) rfl ?_
        refine asg (.slice _ _ _) rfl ?_
        refine jt ?_
        refine c_ret ?_
        have hye : ys = hexb (word s (p + 1)) n := by rw [(hI1.2.2.1 rfl).2.1]; unfold hexb; rw [show i = 2 * n by have := (hI1.2.2.1 rfl).1; omega]
        have hyok : Ow.ok (⟨false, b11, n, encs (List.replicate (n - n) (0 : UInt8))⟩ : Ow) (hexb (word s (p + 1)) n) := by rw [← hye]; exact hyo
        subst hye
        exact j_end (own0 := [[(b, .cells (cat [pt s, p1 (.int .i64 ((p : Nat) : Int)), p1 (.bool false)]) 56)]]) (ro0 := []) (.inl rfl) rfl (hr1 Tryd.results34 (rvt (v := (.slice _ _ _)) rfl)) [1, 0] [] [_, _] [] [] _ rfl rfl (by kernel_rfl) rfl impl_nil (.inl ⟨(⟨false, b11, n, encs (List.replicate (n - n) (0 : UInt8))⟩ : Ow), _, by rw [word_length]; exact hexR_ok (by assumption) (by rw [← word_length]; exact (hI1.2.2.1 rfl).1) (hexok_of (fun j hj => (hI1.2.2.1 rfl).2.2 j (by omega))), hyok, rfl, rfl, rfl⟩)
    · refine g_off rfl rfl rfl rfl ?_
      refine g_off rfl rfl rfl rfl ?_
      refine g_off rfl rfl rfl rfl ?_
      refine g_off rfl rfl rfl rfl ?_
      refine pkf (.bool _) rfl rfl ?_
      refine jt ?_
      refine c_false rfl ?_
      refine c_exit rfl ?_
      refine e_then ?_
      refine c_seq ?_
      obtain rfl : rt = false := by assumption
      refine c_reg ?_
      refine mv (.pointer _) rfl ?_
      refine mv (.string _) rfl ?_
      refine lenT (s := (word s (p + 1))) rfl Tryd.underlying9 ?_
      refine mv (.bool _) rfl ?_
      refine cal (took_f b s (p + 1) ((word s (p + 1)).length) (by omega)) [1] [0] [_] rfl rfl rfl (by kernel_rfl) impl_nil rfl ?_; rintro _ _ _ ⟨rfl, rfl, rfl⟩; refine ⟨trivial, ?_⟩
      refine jt ?_
      refine c_seq ?_
      refine c_reg ?_
      refine mv (.slice _ _ _) rfl ?_
      refine asg (.slice _ _ _) rfl ?_
      refine jt ?_
      refine c_ret ?_
      exact j_end (own0 := [[(b, .cells (cat [pt s, p1 (.int .i64 ((p : Nat) : Int)), p1 (.bool false)]) 56)]]) (ro0 := []) (.inl rfl) rfl (hr1 Tryd.results34 (rvt (v := (.slice _ _ _)) rfl)) [1, 0] [] [_, _] [] [] _ rfl rfl (by kernel_rfl) rfl impl_nil (.inr ⟨(⟨false, b11, n, encs (List.replicate (n - n) (0 : UInt8))⟩ : Ow), ys, _, hexR_bad (by assumption) (by rw [← word_length]; exact hI1.2.2.2 rfl), by omega, hyo, hyl, rfl, rfl, rfl⟩)
  · refine ⟨trivial, ?_⟩
    refine not_ rfl ?_
    refine jt ?_
    refine c_true rfl ?_
    refine c_seq ?_
    refine c_reg ?_
    refine mv (.slice _ _ _) rfl ?_
    refine asg (.slice _ _ _) rfl ?_
    refine jt ?_
    refine c_ret ?_
    exact j_end (own0 := [[(b, .cells (cat [pt s, p1 (.int .i64 ((p : Nat) : Int)), p1 (.bool false)]) 56)]]) (ro0 := []) (.inl rfl) rfl (hr1 Tryd.results34 (rvt (v := (.slice _ _ _)) rfl)) [1, 0] [] [_, _] [] [] _ rfl rfl (by kernel_rfl) rfl impl_nil (.inr ⟨(⟨false, b11, n, encs (List.replicate (n - n) (0 : UInt8))⟩ : Ow), _, _, hexR_no (by assumption), by omega, mks_ok (0 : UInt8) b11 n n (Nat.le_refl _), by simp, rfl, rfl, rfl⟩)
end Go.Proofs.YthpbiamicidakaaDoor
namespace Go.PW
open Go
theorem hv_56 {w : Str} {i : Nat} {b : UInt64} (h : hval w (2 * i) < 16 ^ (2 * i)) (hb : b.toNat = hval w (2 * i)) (hi : i < 8) : b.toNat < 72057594037927936 := by
  have : 16 ^ (2 * i) ≤ 16 ^ 14 := Nat.pow_le_pow_right (by omega) (by omega)
  omega
theorem degB_of {w : Str} {b : UInt64} (hw : w.length = 2 * 8) (h : b.toNat = hval w 16) : (⟨b⟩ : F64) = degB w := by
  unfold degB
  have : b = UInt64.ofNat (hval w w.length) := by
    apply UInt64.toNat_inj.1
    have hb := b.toNat_lt
    rw [hw, UInt64.toNat_ofNat', h]
    rw [h] at hb
    rw [show 2 * 8 = 16 from rfl]
    omega
  rw [this]
theorem degR_next {s : Str} {M f : F64} {p q : Nat} (h : degR s M p = .inr (f, q)) : p < q ∧ q ≤ s.length := by
  unfold degR at h
  cases hh : hexR s 8 p with
  | inl k => rw [hh] at h; cases h
  | inr x =>
    obtain ⟨w, k⟩ := x
    rw [hh] at h
    simp only at h
    by_cases ho : oddB (degB w) M = true
    · rw [if_pos ho] at h; cases h
    · rw [if_neg ho] at h; cases h
      have := hexR_next hh
      exact ⟨this.1, this.2.1⟩
end Go.PW
namespace Go.Proofs.YthpbiamicidakaaDoor
open Go Go.Proofs Go.PW
open Go.PW.Enc (enc val)
theorem ty56 : Ty Tryd.prog 56 3 true := ⟨by kernel_rfl, by kernel_rfl⟩
theorem z56 : Zt Tryd.prog 56 (.agg ⟨cat [pt ([] : Str), pt (0 : Int), p1 (.bool false)]⟩) := by unfold Zt; kernel_rfl
set_option maxRecDepth 20000 in
set_option maxHeartbeats 4000000 in
theorem degrees_bad (b : Nat) (s : Str) (p : Nat) (hs : s.length ≤ 140737488351232) (hp : p ≤ s.length) (M : F64) : Ct Tryd.prog 32 [.pointer (some ⟨b, 0, none⟩), .float .f64 M.b.toNat] [[(b, .cells (cat [pt s, p1 (.int .i64 ((p : Nat) : Int)), p1 (.bool true)]) 56)]] [] (fun v o r => ∃ n : F64, v = .float .f64 n.b.toNat ∧ o = [[(b, .cells (cat [pt s, p1 (.int .i64 ((p : Nat) : Int)), p1 (.bool true)]) 56)]] ∧ r = []) := by
  refine ct_enter Tryd.func32 rfl Tryd.ntmps32 (by kernel_rfl) rfl fun w0 => ?_
  refine c_seq ?_
  refine c_reg ?_
  refine asg (.float _ _) rfl ?_
  refine jt ?_
  refine c_seq ?_
  refine c_reg ?_
  refine mv (.pointer _) rfl ?_
  refine nlc rfl ?_
  refine ldw 0 _ rfl rfl ty56 ?_
  refine alo [pt ([] : Str), pt (0 : Int), p1 (.bool false)] _ z56 rfl fun b5 => ⟨trivial, ?_⟩
  refine stw 1 _ [pt s, p1 (.int .i64 ((p : Nat) : Int)), p1 (.bool true)] rfl rfl rfl rfl ty56 ⟨trivial, ?_⟩
  refine jt ?_
  refine c_seq ?_
  refine c_reg ?_
  refine asg (.int _ _) rfl ?_
  refine jt ?_
  refine c_seq ?_
  refine c_seq ?_
  refine c_reg ?_
  refine mv (.pointer _) rfl ?_
  refine cal (bytes_bad b s p (by omega) (by omega) 8 (by omega) (by omega)) [0] [1] [_] rfl rfl rfl (by kernel_rfl) impl_nil rfl ?_; rintro _ _ _ ⟨yb1, yx1, hky1, hyl1, rfl, rfl, rfl⟩; refine ⟨trivial, ?_⟩
  refine lenS rfl Tryd.underlying50 ?_
  refine mv (.int _ _) rfl ?_
  refine jt ?_
  refine c_block ?_
  refine c_loop (σ := Nat × UInt64) (fun (i, bits) => i ≤ 8) (fun (i, bits) => 8 - i) (fun (i, bits) => [(16, .int .i64 (i : Int)), (6, .int .u64 (bits.toNat : Int))]) (fun (i, bits) => [[(b5, .cells (cat [pt s, p1 (.int .i64 ((p : Nat) : Int)), p1 (.bool true)]) 56)], [(b, .cells (cat [pt s, p1 (.int .i64 ((p : Nat) : Int)), p1 (.bool true)]) 56)], yb1.seg yx1 5]) (fun (i, bits) => []) [6, 8, 16, 17, 18, 19, 20, 21, 22, 23, 24, 25] (0, 0) (by omega) ⟨rfl, rfl, trivial⟩ rfl rfl ?_
  rintro ⟨i, bits⟩ g1 hI1
  try dsimp only at hI1 ⊢
  refine c_seq ?_
  refine c_reg ?_
  refine cmp _ rfl rfl rfl ?_
  refine jt ?_
  refine c_seq ?_
  refine c_cond rfl (fun h1 => ?_) (fun h1 => ?_)
  · replace h1 := of_decide_eq_true h1
    refine c_skip ?_
    refine e_then ?_
    refine c_seq ?_
    refine c_block ?_
    refine c_seq ?_
    refine c_reg ?_
    refine ixs ((yb1).vs) yx1 i (Ow.vs_ok hky1) rfl hyl1.symm rfl Tryd.underlying50 ty5.sz rfl (by rw [hyl1]; omega) ?_
    refine ldsoG 2 (List.getD yx1 i 0) hky1 rfl rfl rfl rfl (getD_some (by rw [hyl1]; omega)) ty5 ?_
    refine asg (.int _ _) rfl ?_
    refine jt ?_
    refine c_reg ?_
    refine mv (.int _ _) rfl ?_
    refine shlRU64 (a := bits) 8 rfl rfl rfl ?_
    refine mv (.int _ _) rfl ?_
    refine cvNU64 (n := (List.getD yx1 i 0).toNat) rfl Tryd.underlying5 Tryd.underlying23 ?_
    refine orU64 (a := (shlU64 bits 8)) (b := (UInt64.ofNat ((List.getD yx1 i 0).toNat))) rfl rfl ?_
    refine asg (.int _ _) rfl ?_
    refine jn ?_
    refine e_in ?_
    refine e_then ?_
    refine c_reg ?_
    refine addi rfl rfl rfl (by omega) ?_
    refine mv (.int _ _) rfl ?_
    refine jn ?_
    exact e_loop (i + 1, ((shlU64 bits 8) ||| (UInt64.ofNat ((List.getD yx1 i 0).toNat)))) (by omega) (by show 8 - (i + 1) < 8 - i; omega) (⟨rfl, rfl, trivial⟩) rfl rfl rfl
  · replace h1 := of_decide_eq_false h1
    refine c_exit rfl ?_
    refine e_then ?_
    refine c_seq ?_
    refine c_reg ?_
    refine mv (.int _ _) rfl ?_
    refine xcal (args := [.int .u64 (bits.toNat : Int)]) (.float .f64 bits.toNat) Tryd.func16 (by kernel_rfl) (by kernel_rfl) (by kernel_rfl) (fun w => rfl) (by kernel_rfl) rfl ?_
    refine asg (.float _ _) rfl ?_
    refine jt ?_
    refine c_seq ?_
    refine c_seq ?_
    refine c_reg ?_
    refine mv (.pointer _) rfl ?_
    refine nlc rfl ?_
    refine fad rfl Tryd.underlying56 rfl ty4.sz ?_
    refine ldp 1 2 _ rfl rfl rfl rfl ty4 ?_
    refine not_ rfl ?_
    refine mv (.bool _) rfl ?_
    refine g_off rfl rfl rfl rfl ?_
    refine g_off rfl rfl rfl rfl ?_
    refine g_off rfl rfl rfl rfl ?_
    refine pkf (.bool _) rfl rfl ?_
    refine jt ?_
    refine c_false rfl ?_
    refine c_skip ?_
    refine e_then ?_
    refine c_seq ?_
    refine c_reg ?_
    refine mv (.float _ _) rfl ?_
    refine asg (.float _ _) rfl ?_
    refine jt ?_
    refine c_ret ?_
    exact j_end (own0 := [[(b, .cells (cat [pt s, p1 (.int .i64 ((p : Nat) : Int)), p1 (.bool true)]) 56)]]) (ro0 := []) (.inl rfl) rfl (hr1 Tryd.results32 (rvt (v := (.float _ _)) rfl)) [1] [0, 2] [_] [_, _] [] _ rfl rfl (by kernel_rfl) rfl impl_nil (⟨⟨bits⟩, rfl, rfl, rfl⟩)
set_option maxRecDepth 20000 in
set_option maxHeartbeats 4000000 in
theorem degrees_ct (b : Nat) (s : Str) (p : Nat) (hs : s.length ≤ 140737488351232) (hp : p ≤ s.length) (M : F64) : Ct Tryd.prog 32 [.pointer (some ⟨b, 0, none⟩), .float .f64 M.b.toNat] [[(b, .cells (cat [pt s, p1 (.int .i64 ((p : Nat) : Int)), p1 (.bool false)]) 56)]] [] (fun v o r => (∃ (n : F64) (q : Nat), degR s M p = .inr (n, q) ∧ v = .float .f64 n.b.toNat ∧ o = [[(b, .cells (cat [pt s, p1 (.int .i64 ((q : Nat) : Int)), p1 (.bool false)]) 56)]] ∧ r = []) ∨ (∃ (n : F64) (q : Nat), degR s M p = .inl q ∧ q ≤ s.length ∧ v = .float .f64 n.b.toNat ∧ o = [[(b, .cells (cat [pt s, p1 (.int .i64 ((q : Nat) : Int)), p1 (.bool true)]) 56)]] ∧ r = [])) := by
  refine ct_enter Tryd.func32 rfl Tryd.ntmps32 (by kernel_rfl) rfl fun w0 => ?_
  refine c_seq ?_
  refine c_reg ?_
  refine asg (.float _ _) rfl ?_
  refine jt ?_
  refine c_seq ?_
  refine c_reg ?_
  refine mv (.pointer _) rfl ?_
  refine nlc rfl ?_
  refine ldw 0 _ rfl rfl ty56 ?_
  refine alo [pt ([] : Str), pt (0 : Int), p1 (.bool false)] _ z56 rfl fun b5 => ⟨trivial, ?_⟩
  refine stw 1 _ [pt s, p1 (.int .i64 ((p : Nat) : Int)), p1 (.bool false)] rfl rfl rfl rfl ty56 ⟨trivial, ?_⟩
  refine jt ?_
  refine c_seq ?_
  refine c_reg ?_
  refine asg (.int _ _) rfl ?_
  refine jt ?_
  refine c_seq ?_
  refine c_seq ?_
  refine c_reg ?_
  refine mv (.pointer _) rfl ?_
  refine cal (bytes_ct b s p (by omega) (by omega) 8 (by omega) (by omega)) [0] [1] [_] rfl rfl rfl (by kernel_rfl) impl_nil rfl ?_; rintro _ _ _ (⟨yb1, yq1, hby1, hky1, rfl, rfl, rfl⟩ | ⟨yb1, yx1, yq1, hby1, hby1b, hky1, hyl1, rfl, rfl, rfl⟩)
  · have hby1b := hexR_next hby1; refine ⟨trivial, ?_⟩
    refine lenS rfl Tryd.underlying50 ?_
    refine mv (.int _ _) rfl ?_
    refine jt ?_
    refine c_block ?_
    refine c_loop (σ := Nat × UInt64) (fun (i, bits) => i ≤ 8 ∧ bits.toNat = hval (word s (p + 1)) (2 * i)) (fun (i, bits) => 8 - i) (fun (i, bits) => [(16, .int .i64 (i : Int)), (6, .int .u64 (bits.toNat : Int))]) (fun (i, bits) => [[(b5, .cells (cat [pt s, p1 (.int .i64 ((p : Nat) : Int)), p1 (.bool false)]) 56)], [(b, .cells (cat [pt s, p1 (.int .i64 ((yq1 : Nat) : Int)), p1 (.bool false)]) 56)], yb1.seg (hexb (word s (p + 1)) 8) 5]) (fun (i, bits) => []) [6, 8, 16, 17, 18, 19, 20, 21, 22, 23, 24, 25] (0, 0) (⟨by omega, by simp [hval]⟩) ⟨rfl, rfl, trivial⟩ rfl rfl ?_
    rintro ⟨i, bits⟩ g1 hI1
    try dsimp only at hI1 ⊢
    have HV := hval_lt hby1b.2.2.2 (2 * i) (by omega)
    refine c_seq ?_
    refine c_reg ?_
    refine cmp _ rfl rfl rfl ?_
    refine jt ?_
    refine c_seq ?_
    refine c_cond rfl (fun h1 => ?_) (fun h1 => ?_)
    · replace h1 := of_decide_eq_true h1
      refine c_skip ?_
      refine e_then ?_
      refine c_seq ?_
      refine c_block ?_
      refine c_seq ?_
      refine c_reg ?_
      refine ixs ((yb1).vs) (hexb (word s (p + 1)) 8) i (Ow.vs_ok hky1) rfl ((hrow_length _ _ _).symm) rfl Tryd.underlying50 ty5.sz rfl (by first | (rw [hyl1]; omega) | (unfold hexb; rw [hrow_length]; omega)) ?_
      refine ldsoG 2 (List.getD (hexb (word s (p + 1)) 8) i 0) hky1 rfl rfl rfl rfl (getD_some (by first | (rw [hyl1]; omega) | (unfold hexb; rw [hrow_length]; omega))) ty5 ?_
      refine asg (.int _ _) rfl ?_
      refine jt ?_
      refine c_reg ?_
      refine mv (.int _ _) rfl ?_
      refine shlRU64 (a := bits) 8 rfl rfl rfl ?_
      refine mv (.int _ _) rfl ?_
      refine cvNU64 (n := (List.getD (hexb (word s (p + 1)) 8) i 0).toNat) rfl Tryd.underlying5 Tryd.underlying23 ?_
      refine orU64 (a := (shlU64 bits 8)) (b := (UInt64.ofNat ((List.getD (hexb (word s (p + 1)) 8) i 0).toNat))) rfl rfl ?_
      refine asg (.int _ _) rfl ?_
      refine jn ?_
      refine e_in ?_
      refine e_then ?_
      refine c_reg ?_
      refine addi rfl rfl rfl (by omega) ?_
      refine mv (.int _ _) rfl ?_
      refine jn ?_
      exact e_loop (i + 1, ((shlU64 bits 8) ||| (UInt64.ofNat ((List.getD (hexb (word s (p + 1)) 8) i 0).toNat)))) (⟨by omega, by rw [hval_byte hby1b.2.2.1 hby1b.2.2.2 (show i < 8 by omega), ← hI1.2]; exact or8 (hv_56 HV hI1.2 (by omega))⟩) (by show 8 - (i + 1) < 8 - i; omega) (⟨rfl, rfl, trivial⟩) rfl rfl rfl
    · replace h1 := of_decide_eq_false h1
      refine c_exit rfl ?_
      refine e_then ?_
      refine c_seq ?_
      refine c_reg ?_
      refine mv (.int _ _) rfl ?_
      refine xcal (args := [.int .u64 (bits.toNat : Int)]) (.float .f64 bits.toNat) Tryd.func16 (by kernel_rfl) (by kernel_rfl) (by kernel_rfl) (fun w => rfl) (by kernel_rfl) rfl ?_
      refine asg (.float _ _) rfl ?_
      refine jt ?_
      refine c_seq ?_
      refine c_seq ?_
      refine c_reg ?_
      refine mv (.pointer _) rfl ?_
      refine nlc rfl ?_
      refine fad rfl Tryd.underlying56 rfl ty4.sz ?_
      refine ldp 1 2 _ rfl rfl rfl rfl ty4 ?_
      refine not_ rfl ?_
      refine mv (.bool _) rfl ?_
      refine g_on rfl rfl rfl ?_
      refine mv (.float _ _) rfl ?_
      refine g_on rfl rfl rfl ?_
      refine mv (.float _ _) rfl ?_
      refine g_on rfl rfl rfl ?_
      refine cal (odd_ct (⟨bits⟩ : F64) M) [] [0, 1, 2] [_, _, _] rfl rfl rfl (by kernel_rfl) impl_nil rfl ?_; rintro _ _ _ ⟨rfl, rfl, rfl⟩; refine ⟨trivial, ?_⟩
      refine pkt (.bool _) rfl rfl ?_
      refine jt ?_
      refine c_cond rfl (fun h2 => ?_) (fun h2 => ?_)
      · refine c_reg ?_
        refine mv (.pointer _) rfl ?_
        refine mv (.pointer _) rfl ?_
        refine fad rfl Tryd.underlying56 rfl ty3.sz ?_
        refine ldp 0 1 _ rfl rfl rfl rfl ty3 ?_
        refine addi rfl rfl rfl (by omega) ?_
        refine nlc rfl ?_
        refine fad rfl Tryd.underlying56 rfl ty3.sz ?_
        refine stp 1 1 _ (p1 (.int .i64 (((p : Nat) : Int) + 1))) rfl rfl rfl rfl rfl rfl ty3 ⟨trivial, ?_⟩
        refine nlc rfl ?_
        refine fad rfl Tryd.underlying56 rfl ty4.sz ?_
        refine stp 1 2 _ (p1 (.bool true)) rfl rfl rfl rfl rfl rfl ty4 ⟨trivial, ?_⟩
        refine jt ?_
        refine c_seq ?_
        refine c_reg ?_
        refine mv (.float _ _) rfl ?_
        refine asg (.float _ _) rfl ?_
        refine jt ?_
        refine c_ret ?_
        exact j_end (own0 := [[(b, .cells (cat [pt s, p1 (.int .i64 ((p : Nat) : Int)), p1 (.bool false)]) 56)]]) (ro0 := []) (.inl rfl) rfl (hr1 Tryd.results32 (rvt (v := (.float _ _)) rfl)) [1] [0, 2] [_] [_, _] [] _ rfl rfl (by kernel_rfl) rfl impl_nil (.inr ⟨⟨bits⟩, (p + 1), degR_odd hby1 (by rw [← degB_of hby1b.2.2.1 (by rw [hI1.2, show 2 * i = 16 by omega])]; assumption), by omega, rfl, rfl, rfl⟩)
      · refine c_skip ?_
        refine e_then ?_
        refine c_seq ?_
        refine c_reg ?_
        refine mv (.float _ _) rfl ?_
        refine asg (.float _ _) rfl ?_
        refine jt ?_
        refine c_ret ?_
        exact j_end (own0 := [[(b, .cells (cat [pt s, p1 (.int .i64 ((p : Nat) : Int)), p1 (.bool false)]) 56)]]) (ro0 := []) (.inl rfl) rfl (hr1 Tryd.results32 (rvt (v := (.float _ _)) rfl)) [1] [0, 2] [_] [_, _] [] _ rfl rfl (by kernel_rfl) rfl impl_nil (.inl ⟨_, _, by rw [degB_of hby1b.2.2.1 (by rw [hI1.2, show 2 * i = 16 by omega])]; exact degR_ok hby1 (by rw [← degB_of hby1b.2.2.1 (by rw [hI1.2, show 2 * i = 16 by omega])]; assumption), rfl, rfl, rfl⟩)
  · refine ⟨trivial, ?_⟩
    refine lenS rfl Tryd.underlying50 ?_
    refine mv (.int _ _) rfl ?_
    refine jt ?_
    refine c_block ?_
    refine c_loop (σ := Nat × UInt64) (fun (i, bits) => i ≤ 8) (fun (i, bits) => 8 - i) (fun (i, bits) => [(16, .int .i64 (i : Int)), (6, .int .u64 (bits.toNat : Int))]) (fun (i, bits) => [[(b5, .cells (cat [pt s, p1 (.int .i64 ((p : Nat) : Int)), p1 (.bool false)]) 56)], [(b, .cells (cat [pt s, p1 (.int .i64 ((yq1 : Nat) : Int)), p1 (.bool true)]) 56)], yb1.seg yx1 5]) (fun (i, bits) => []) [6, 8, 16, 17, 18, 19, 20, 21, 22, 23, 24, 25] (0, 0) (by omega) ⟨rfl, rfl, trivial⟩ rfl rfl ?_
    rintro ⟨i, bits⟩ g1 hI1
    try dsimp only at hI1 ⊢
    refine c_seq ?_
    refine c_reg ?_
    refine cmp _ rfl rfl rfl ?_
    refine jt ?_
    refine c_seq ?_
    refine c_cond rfl (fun h3 => ?_) (fun h3 => ?_)
    · replace h3 := of_decide_eq_true h3
      refine c_skip ?_
      refine e_then ?_
      refine c_seq ?_
      refine c_block ?_
      refine c_seq ?_
      refine c_reg ?_
      refine ixs ((yb1).vs) yx1 i (Ow.vs_ok hky1) rfl hyl1.symm rfl Tryd.underlying50 ty5.sz rfl (by first | (rw [hyl1]; omega) | (unfold hexb; rw [hrow_length]; omega)) ?_
      refine ldsoG 2 (List.getD yx1 i 0) hky1 rfl rfl rfl rfl (getD_some (by first | (rw [hyl1]; omega) | (unfold hexb; rw [hrow_length]; omega))) ty5 ?_
      refine asg (.int _ _) rfl ?_
      refine jt ?_
      refine c_reg ?_
      refine mv (.int _ _) rfl ?_
      refine shlRU64 (a := bits) 8 rfl rfl rfl ?_
      refine mv (.int _ _) rfl ?_
      refine cvNU64 (n := (List.getD yx1 i 0).toNat) rfl Tryd.underlying5 Tryd.underlying23 ?_
      refine orU64 (a := (shlU64 bits 8)) (b := (UInt64.ofNat ((List.getD yx1 i 0).toNat))) rfl rfl ?_
      refine asg (.int _ _) rfl ?_
      refine jn ?_
      refine e_in ?_
      refine e_then ?_
      refine c_reg ?_
      refine addi rfl rfl rfl (by omega) ?_
      refine mv (.int _ _) rfl ?_
      refine jn ?_
      exact e_loop (i + 1, ((shlU64 bits 8) ||| (UInt64.ofNat ((List.getD yx1 i 0).toNat)))) (by omega) (by show 8 - (i + 1) < 8 - i; omega) (⟨rfl, rfl, trivial⟩) rfl rfl rfl
    · replace h3 := of_decide_eq_false h3
      refine c_exit rfl ?_
      refine e_then ?_
      refine c_seq ?_
      refine c_reg ?_
      refine mv (.int _ _) rfl ?_
      refine xcal (args := [.int .u64 (bits.toNat : Int)]) (.float .f64 bits.toNat) Tryd.func16 (by kernel_rfl) (by kernel_rfl) (by kernel_rfl) (fun w => rfl) (by kernel_rfl) rfl ?_
      refine asg (.float _ _) rfl ?_
      refine jt ?_
      refine c_seq ?_
      refine c_seq ?_
      refine c_reg ?_
      refine mv (.pointer _) rfl ?_
      refine nlc rfl ?_
      refine fad rfl Tryd.underlying56 rfl ty4.sz ?_
      refine ldp 1 2 _ rfl rfl rfl rfl ty4 ?_
      refine not_ rfl ?_
      refine mv (.bool _) rfl ?_
      refine g_off rfl rfl rfl rfl ?_
      refine g_off rfl rfl rfl rfl ?_
      refine g_off rfl rfl rfl rfl ?_
      refine pkf (.bool _) rfl rfl ?_
      refine jt ?_
      refine c_false rfl ?_
      refine c_skip ?_
      refine e_then ?_
      refine c_seq ?_
      refine c_reg ?_
      refine mv (.float _ _) rfl ?_
      refine asg (.float _ _) rfl ?_
      refine jt ?_
      refine c_ret ?_
      exact j_end (own0 := [[(b, .cells (cat [pt s, p1 (.int .i64 ((p : Nat) : Int)), p1 (.bool false)]) 56)]]) (ro0 := []) (.inl rfl) rfl (hr1 Tryd.results32 (rvt (v := (.float _ _)) rfl)) [1] [0, 2] [_] [_, _] [] _ rfl rfl (by kernel_rfl) rfl impl_nil (.inr ⟨⟨bits⟩, _, degR_l hby1, hby1b, rfl, rfl, rfl⟩)
end Go.Proofs.YthpbiamicidakaaDoor
namespace Go.PW
open Enc (enc val)
open Go
section
variable {cx : Cx} {md : Md} {ops : Array Oper} {Q : Exit → Act → World → Prop} {rest : List (Oper × Nat)} {kq : Nat} {base : Nat → Value} {L : List (Nat × Value)} {own ro : List Seg}
variable {q : Nat} {d : Nat} {ty : TypeId} {pos : String} {aft : Array Edge} {x y z : Operand} {xt yt : TypeId} {k k2 : IntKind}
theorem shrn {a m : Nat} {i : Int} (n : Nat) (hx : ev cx.n base L x = .int k (a : Int)) (hy : ev cx.n base L y = .int k2 i) (hn : i = (n : Int)) (hm : 2 ^ (min n k.bits) = m) (h : JG cx md ops Q rest base ((d, .int k ((a / m : Nat) : Int)) :: L) own ro) : JG cx md ops Q ((⟨some d, .binOp .shr xt x y yt, ty, pos, aft, none⟩, q) :: rest) base L own ro :=
  bopI _ hx hy (by
    subst hn; subst hm
    show Op.shift .shr k _ k2 _ = _
    rw [shift_shr_any _ _ _ _ (by omega), Int.toNat_natCast, Int.natCast_ediv, Int.natCast_pow]; rfl) h
end
theorem or192 : ∀ x : Fin 32, ((192 : UInt8) ||| UInt8.ofNat x.val) = UInt8.ofNat (192 + x.val) := by decide +kernel
theorem or224 : ∀ x : Fin 16, ((224 : UInt8) ||| UInt8.ofNat x.val) = UInt8.ofNat (224 + x.val) := by decide +kernel
theorem or240 : ∀ x : Fin 8, ((240 : UInt8) ||| UInt8.ofNat x.val) = UInt8.ofNat (240 + x.val) := by decide +kernel
theorem or128 : ∀ x : Fin 256, ((128 : UInt8) ||| (UInt8.ofNat x.val &&& 63)) = UInt8.ofNat (128 + x.val % 64) := by decide +kernel
theorem orC {n : Nat} : ((128 : UInt8) ||| (UInt8.ofNat n &&& 63)) = UInt8.ofNat (128 + n % 64) := by
  have := or128 ⟨n % 256, Nat.mod_lt _ (by omega)⟩
  have e : UInt8.ofNat n = UInt8.ofNat (n % 256) := by apply UInt8.toNat_inj.1; simp [UInt8.toNat_ofNat']
  rw [e]; rw [show n % 64 = n % 256 % 64 by omega]; exact this
theorem enc8_1 {c : Nat} (h : c < 128) : enc8 c = [UInt8.ofNat c] := by unfold enc8; rw [if_pos h]
theorem enc8_2 {c : Nat} (h : ¬ c < 128) (h2 : c < 2048) : enc8 c = [192 ||| UInt8.ofNat (c / 64), 128 ||| (UInt8.ofNat c &&& 63)] := by
  have a := or192 ⟨c / 64, by omega⟩
  dsimp only at a
  unfold enc8; rw [if_neg h, if_pos h2, a, orC]
theorem enc8_3 {c : Nat} (h2 : ¬ c < 2048) (h3 : c < 65536) : enc8 c = [224 ||| UInt8.ofNat (c / 4096), 128 ||| (UInt8.ofNat (c / 64) &&& 63), 128 ||| (UInt8.ofNat c &&& 63)] := by
  have a := or224 ⟨c / 4096, by omega⟩
  dsimp only at a
  unfold enc8; rw [if_neg (by omega), if_neg h2, if_pos h3, a, orC, orC]
theorem enc8_4 {c : Nat} (h3 : ¬ c < 65536) (h4 : c ≤ 1114111) : enc8 c = [240 ||| UInt8.ofNat (c / 262144), 128 ||| (UInt8.ofNat (c / 4096) &&& 63), 128 ||| (UInt8.ofNat (c / 64) &&& 63), 128 ||| (UInt8.ofNat c &&& 63)] := by
  have a := or240 ⟨c / 262144, by omega⟩
  dsimp only at a
  unfold enc8; rw [if_neg (by omega), if_neg (by omega), if_neg h3, a, orC, orC, orC]
theorem getD_drop (s : Str) (i j : Nat) : List.getD (s.drop i) j 0 = List.getD s (i + j) 0 := by simp [List.getD, List.getElem?_drop]
theorem pfx_one {s : Str} {c : UInt8} : pfx s [c] = true ↔ 0 < s.length ∧ List.getD s 0 0 = c := by
  cases s with
  | nil => simp [pfx]
  | cons a r => simp [pfx]
def vruneZ (r : Int) : Bool := (decide (0 ≤ r) && decide (r < 55296)) || (decide (57343 < r) && decide (r ≤ 1114111))
theorem vruneZ_nat {c : Nat} : vruneZ (c : Int) = vrune c := by
  unfold vruneZ vrune
  rw [Bool.eq_iff_iff]
  simp only [Bool.or_eq_true, Bool.and_eq_true, decide_eq_true_eq]
  omega
theorem vruneZ_neg {r : Int} (h : r < 0) : vruneZ r = false := by
  unfold vruneZ
  rw [decide_eq_false (show ¬ 0 ≤ r by omega), decide_eq_false (show ¬ 57343 < r by omega)]; rfl
theorem coded_yes {r : Str} {n : Int} {k : Nat} {x : Str} (h1 : idxN r 125 < r.length) (h2 : List.getD r 0 0 = 123) (hx : 0 ≤ n → x = fmtN 16 n.toNat) (he : x = (r.drop 1).take (idxN r 125 - 1)) (hv : vruneZ n = true) (hp : n < 32 ∨ 126 < n) (hk : k = idxN r 125 + 1) :
    ∃ c m : Nat, n = (c : Int) ∧ (k : Int) = (m : Int) ∧ coded r = some (c, m) := by
  have h0 : 0 ≤ n := Int.not_lt.1 fun h => by rw [vruneZ_neg h] at hv; cases hv
  obtain ⟨c, rfl⟩ := Int.eq_ofNat_of_zero_le h0
  rw [vruneZ_nat] at hv
  refine ⟨c, k, rfl, rfl, ?_⟩
  have hx' := hx h0
  rw [Int.toNat_natCast] at hx'
  unfold coded
  rw [if_pos ⟨h1, h2⟩, ← he, hx', pnum_fmt (by omega) (by omega) (by rw [vrune_iff] at hv; omega)]
  simp only
  rw [if_pos ⟨hv, by omega⟩, hk]
theorem coded_none1 {r : Str} (h : ¬(idxN r 125 < r.length ∧ List.getD r 0 0 = 123)) : coded r = none := by unfold coded; rw [if_neg h]
theorem coded_none2 {r : Str} (h : ∀ c, pnum 16 ((r.drop 1).take (idxN r 125 - 1)) = some c → ¬(vrune c = true ∧ (c < 32 ∨ 126 < c))) : coded r = none := by
  unfold coded
  split
  · cases hp : pnum 16 ((r.drop 1).take (idxN r 125 - 1)) with
    | none => rfl
    | some c => simp only; rw [if_neg (h c hp)]
  · rfl
theorem fmt_sign {w : Str} {m : Nat} (h : List.getD w 0 0 = 43 ∨ List.getD w 0 0 = 45) : w ≠ fmtN 16 m := fun e => by
  have hl := (fmtN_length 16 m).1
  have h1 := fmt_get e (i := 0) (by rw [e]; omega)
  have h2 := dch_sign (m / 16 ^ (w.length - 1 - 0) % 16) (Nat.mod_lt _ (by omega))
  rw [h1] at h
  rcases h with h | h
  · exact h2.1 h
  · exact h2.2.1 h
theorem ow_cap2 {o : Ow} {ys : Str} (h : o.ok ys) (hl : 0 < ys.length ∨ o.nl = true) : o.cap ≠ 0 ∨ o.adr = none := by
  rcases hl with hl | hl
  · exact ow_cap h hl
  · exact .inr (by simp [Ow.adr, hl])
end Go.PW
