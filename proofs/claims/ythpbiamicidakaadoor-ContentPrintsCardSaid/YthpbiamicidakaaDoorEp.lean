/- The engine: numbers of a fixed width, typed; floats; calls of functions that have no body. No condition. -/
import Derived.Test.YthpbiamicidakaaDoorEo
import Derived.Laws.FloatArith
import Derived.Laws.Shifts
namespace Go.PW
open Enc (enc val)
open Go

/-- A float by its bits. -/
structure F64 where
  b : UInt64
  deriving DecidableEq
instance : Enc F64 := ⟨1, fun x => [.float .f64 x.b.toNat], fun x => .float .f64 x.b.toNat, false, fun _ => rfl, fun _ => .inr ⟨rfl, rfl⟩, fun x u hu => by rw [List.mem_singleton] at hu; subst hu; rfl⟩
theorem wrapU8 (n : Int) : IntKind.u8.wrap n = n % 256 := by simp [IntKind.wrap, IntKind.bits, IntKind.signed]
theorem wrapU16 (n : Int) : IntKind.u16.wrap n = n % 65536 := by simp [IntKind.wrap, IntKind.bits, IntKind.signed]
theorem wrapU32 (n : Int) : IntKind.u32.wrap n = n % 4294967296 := by simp [IntKind.wrap, IntKind.bits, IntKind.signed]
theorem wrapU64 (n : Int) : IntKind.u64.wrap n = n % 18446744073709551616 := by simp [IntKind.wrap, IntKind.bits, IntKind.signed]
theorem wrapI32 (n : Int) : IntKind.i32.wrap n = (n + 2147483648) % 4294967296 - 2147483648 := by
  simp [IntKind.wrap, IntKind.bits, IntKind.signed]; split <;> omega
theorem wrapI64 (n : Int) : IntKind.i64.wrap n = (n + 9223372036854775808) % 18446744073709551616 - 9223372036854775808 := by
  simp [IntKind.wrap, IntKind.bits, IntKind.signed]; split <;> omega
theorem wI64 {n : Int} (h : -9223372036854775808 ≤ n ∧ n ≤ 9223372036854775807) : IntKind.i64.wrap n = n := by rw [wrapI64]; omega
theorem i32w {n : Int} (h : -2147483648 ≤ n ∧ n ≤ 2147483647) : IntKind.i32.wrap n = n := by rw [wrapI32]; omega

section
variable {cx : Cx} {md : Md} {ops : Array Oper} {Q : Exit → Act → World → Prop} {rest : List (Oper × Nat)} {kq : Nat} {base : Nat → Value} {L : List (Nat × Value)} {own ro : List Seg}
variable {q : Nat} {d : Nat} {ty : TypeId} {pos : String} {aft : Array Edge} {x y z : Operand} {xt yt : TypeId} {k k2 : IntKind}

theorem bopI {op : BinOp} {a b : Int} (r : Value) (hx : ev cx.n base L x = .int k a) (hy : ev cx.n base L y = .int k2 b) (hr : binOp op xt (.int k a) (.int k2 b) = pure r)
    (h : JG cx md ops Q rest base ((d, r) :: L) own ro) : JG cx md ops Q ((⟨some d, .binOp op xt x y yt, ty, pos, aft, none⟩, q) :: rest) base L own ro :=
  qt (fun w _ => by simp only [execOp, hx, hy, eqGuard_at_int, hr, Sem.run_bind, Sem.run_pure, Result.andThen_ok]) h
theorem cvI {ds : TypeDesc} {src dst : TypeId} {a : Int} (r : Int) (hx : ev cx.n base L x = .int k a) (hs : cx.P.underlying src = some ds) (hd : cx.P.underlying dst = some (.int k2)) (hr : k2.wrap a = r)
    (h : JG cx md ops Q rest base ((d, .int k2 r) :: L) own ro) : JG cx md ops Q ((⟨some d, .convert src dst x, ty, pos, aft, none⟩, q) :: rest) base L own ro :=
  cvi hx hs hd (by rw [hr]; exact h)
theorem negI {a : Int} (hx : ev cx.n base L x = .int .i64 a) (hr : -9223372036854775807 ≤ a ∧ a ≤ 9223372036854775807)
    (h : JG cx md ops Q rest base ((d, .int .i64 (-a)) :: L) own ro) : JG cx md ops Q ((⟨some d, .unOp .neg xt x, ty, pos, aft, none⟩, q) :: rest) base L own ro :=
  qt (fun w _ => by
    have : IntKind.i64.wrap (0 - a) = -a := by rw [wrapI64]; omega
    simp only [execOp, hx, Op.unary, Op.intArith, this, Sem.run_bind, Sem.run_pure, Result.andThen_ok]) h
theorem negW {a : Int} (hx : ev cx.n base L x = .int k a) (h : JG cx md ops Q rest base ((d, .int k (k.wrap (0 - a))) :: L) own ro) : JG cx md ops Q ((⟨some d, .unOp .neg xt x, ty, pos, aft, none⟩, q) :: rest) base L own ro :=
  qt (fun w _ => by simp only [execOp, hx, Op.unary, Op.intArith, Sem.run_bind, Sem.run_pure, Result.andThen_ok]) h
theorem quoi {a b : Int} (hx : ev cx.n base L x = .int .i64 a) (hy : ev cx.n base L y = .int .i64 b) (hb : b ≠ 0) (hr : -9223372036854775808 ≤ a.tdiv b ∧ a.tdiv b ≤ 9223372036854775807)
    (h : JG cx md ops Q rest base ((d, .int .i64 (a.tdiv b)) :: L) own ro) : JG cx md ops Q ((⟨some d, .binOp .quo xt x y yt, ty, pos, aft, none⟩, q) :: rest) base L own ro :=
  bopI _ hx hy (by simp only [binOp, ne_eq, not_true_eq_false, if_false, Op.intDiv, hb]; rw [show IntKind.i64.wrap (a.tdiv b) = a.tdiv b from i64w hr]) h
/-! floats -/
def fcv (op : BinOp) (a b : Nat) : Option Bool :=
  match op with
  | .eql => some (Ieee.double.order a b == some .eq)
  | .neq => some (Ieee.double.order a b != some .eq)
  | .lss => some (Ieee.double.order a b == some .lt)
  | .leq => some (Ieee.double.order a b == some .lt || Ieee.double.order a b == some .eq)
  | .gtr => some (Ieee.double.order a b == some .gt)
  | .geq => some (Ieee.double.order a b == some .gt || Ieee.double.order a b == some .eq)
  | _ => none
def fEq (a b : Nat) : Bool := Ieee.double.order a b == some .eq
def fNe (a b : Nat) : Bool := Ieee.double.order a b != some .eq
def fLt (a b : Nat) : Bool := Ieee.double.order a b == some .lt
def fLe (a b : Nat) : Bool := Ieee.double.order a b == some .lt || Ieee.double.order a b == some .eq
def fGt (a b : Nat) : Bool := Ieee.double.order a b == some .gt
def fGe (a b : Nat) : Bool := Ieee.double.order a b == some .gt || Ieee.double.order a b == some .eq
theorem fcmp {op : BinOp} {a b : Nat} (r : Bool) (hx : ev cx.n base L x = .float .f64 a) (hy : ev cx.n base L y = .float .f64 b) (hr : fcv op a b = some r)
    (h : JG cx md ops Q rest base ((d, .bool r) :: L) own ro) : JG cx md ops Q ((⟨some d, .binOp op xt x y yt, ty, pos, aft, none⟩, q) :: rest) base L own ro :=
  qt (fun w _ => by
    have h1 : binOp op xt (.float .f64 a) (.float .f64 b) = pure (.bool r) := by
      cases op <;> simp only [fcv, Option.some.injEq, reduceCtorEq] at hr <;> subst hr <;> rfl
    simp only [execOp, hx, hy, eqGuard_at_float, h1, Sem.run_bind, Sem.run_pure, Result.andThen_ok]) h
theorem fneg {a : Nat} (hx : ev cx.n base L x = .float .f64 a) (h : JG cx md ops Q rest base ((d, .float .f64 (Op.negFloat .f64 a)) :: L) own ro) : JG cx md ops Q ((⟨some d, .unOp .neg xt x, ty, pos, aft, none⟩, q) :: rest) base L own ro :=
  qt (fun w _ => by simp only [execOp, hx, Op.unary, Sem.run_bind, Sem.run_pure, Result.andThen_ok]) h
theorem fari {op : BinOp} {a b : Nat} (r : Nat) (hx : ev cx.n base L x = .float .f64 a) (hy : ev cx.n base L y = .float .f64 b) (hr : floatBits op .f64 a b = some r)
    (h : JG cx md ops Q rest base ((d, .float .f64 r) :: L) own ro) : JG cx md ops Q ((⟨some d, .binOp op xt x y yt, ty, pos, aft, none⟩, q) :: rest) base L own ro :=
  qt (fun w _ => by simp only [execOp, hx, hy, eqGuard_at_float, run_float_arith w op xt .f64 a b r hr, Sem.run_bind, Sem.run_pure, Result.andThen_ok]) h
theorem cvf {ds : TypeDesc} {src dst : TypeId} {a : Int} (hx : ev cx.n base L x = .int k a) (hs : cx.P.underlying src = some ds) (hd : cx.P.underlying dst = some (.float .f64))
    (h : JG cx md ops Q rest base ((d, .float .f64 (FloatKind.f64.nearest a)) :: L) own ro) : JG cx md ops Q ((⟨some d, .convert src dst x, ty, pos, aft, none⟩, q) :: rest) base L own ro :=
  qt (fun w _ => by simp [execOp, hx, convert, run_underlying hs, run_underlying hd, Conv.intToFloat]) h
/-! functions without a body -/
theorem xcal {f : Nat} {fn : Func} {xs : Array Operand} {ts : Array TypeId} {args : List Value} (v : Value) (hf : cx.P.funcs[f]? = some fn) (hname : (fn.name == "runtime.NumGoroutine") = false) (hb : fn.body.isNone = true)
    (he : (match Extern.findNext fn with | some _ => false | none => true) = true) (hfind : ∀ w, (match Extern.find fn with | some e => (e ⟨args⟩).run cx.P w | none => .ok undef w) = .ok v w) (hsome : (Extern.find fn).isSome = true)
    (hargs : xs.toList.map (ev cx.n base L) = args) (h : JG cx md ops Q rest base ((d, v) :: L) own ro) :
    JG cx md ops Q ((⟨some d, .call ⟨.value (.func f), xs, ts⟩, ty, pos, aft, none⟩, q) :: rest) base L own ro :=
  qt (fun w _ => by
    obtain ⟨e, hee⟩ := Option.isSome_iff_exists.1 hsome
    have hrun : (e ⟨args⟩).run cx.P w = .ok v w := by
      have := hfind w
      rw [hee] at this
      exact this
    have hnext : Extern.findNext fn = none := by
      cases hn : Extern.findNext fn with
      | none => rfl
      | some _ => rw [hn] at he; simp at he
    have hcf : (callFunc f ⟨args⟩).run cx.P w = .ok (.value v) w := by
      simp only [callFunc, Sem.run_bind, run_program, Result.andThen_ok, hf, hname, hb, Bool.false_eq_true, if_false, if_true, mark, Sem.run, hnext, hee, hrun, Sem.run_pure]
    have hfv : ev cx.n base L (.func f) = .func (.func f) #[] #[] := rfl
    have ha : xs.map (ev cx.n base L) = ⟨args⟩ := by rw [← hargs]; simp [Array.ext_iff]
    simp only [execOp, resolve, hfv, Deferred.ofValue, ha, Sem.run_bind, Sem.run_pure, Result.andThen_ok, invoke, Array.append_empty, Array.empty_append, hcf]) h

/-! UInt8 -/
theorem bvU8 (a : UInt8) : BitVec.ofInt IntKind.u8.bits ((a.toNat : Nat) : Int) = a.toBitVec := by
  apply BitVec.eq_of_toNat_eq
  rw [BitVec.toNat_ofInt]
  have := a.toNat_lt
  show ((((a.toNat : Nat) : Int) % ((2 ^ 8 : Nat) : Int)).toNat) = a.toNat
  rw [show ((2 ^ 8 : Nat) : Int) = 256 by rfl]
  omega
theorem wrapTU8 (a : UInt8) : IntKind.u8.wrap ((a.toNat : Nat) : Int) = ((a.toNat : Nat) : Int) := by
  have := a.toNat_lt
  rw [wrapU8]; omega
def shlU8 (a : UInt8) (n : Nat) : UInt8 := UInt8.ofNat (a.toNat <<< n)
def shrU8 (a : UInt8) (n : Nat) : UInt8 := UInt8.ofNat (a.toNat >>> n)
theorem shlU8_toNat (a : UInt8) (n : Nat) : (shlU8 a n).toNat = (a.toNat * 2 ^ n) % 256 := by simp [shlU8, Nat.shiftLeft_eq]
theorem shrU8_toNat (a : UInt8) (n : Nat) : (shrU8 a n).toNat = a.toNat / 2 ^ n := by
  have h := a.toNat_lt
  have h2 : a.toNat / 2 ^ n ≤ a.toNat := Nat.div_le_self _ _
  simp only [shrU8, Nat.shiftRight_eq_div_pow, UInt8.toNat_ofNat']
  exact Nat.mod_eq_of_lt (by omega)
section
variable {a b : UInt8}
theorem addU8 (hx : ev cx.n base L x = .int .u8 a.toNat) (hy : ev cx.n base L y = .int .u8 b.toNat) (h : JG cx md ops Q rest base ((d, .int .u8 (a + b).toNat) :: L) own ro) : JG cx md ops Q ((⟨some d, .binOp .add xt x y yt, ty, pos, aft, none⟩, q) :: rest) base L own ro :=
  bopI _ hx hy (by
    show pure (Value.int .u8 (IntKind.u8.wrap ((a.toNat : Int) + b.toNat))) = _
    rw [wrapU8, UInt8.toNat_add]
    congr 2) h
theorem subU8 (hx : ev cx.n base L x = .int .u8 a.toNat) (hy : ev cx.n base L y = .int .u8 b.toNat) (h : JG cx md ops Q rest base ((d, .int .u8 (a - b).toNat) :: L) own ro) : JG cx md ops Q ((⟨some d, .binOp .sub xt x y yt, ty, pos, aft, none⟩, q) :: rest) base L own ro :=
  bopI _ hx hy (by
    show pure (Value.int .u8 (IntKind.u8.wrap ((a.toNat : Int) - b.toNat))) = _
    have h1 := a.toNat_lt
    have h2 := b.toNat_lt
    rw [wrapU8, UInt8.toNat_sub]
    congr 2
    omega) h
theorem mulU8 (hx : ev cx.n base L x = .int .u8 a.toNat) (hy : ev cx.n base L y = .int .u8 b.toNat) (h : JG cx md ops Q rest base ((d, .int .u8 (a * b).toNat) :: L) own ro) : JG cx md ops Q ((⟨some d, .binOp .mul xt x y yt, ty, pos, aft, none⟩, q) :: rest) base L own ro :=
  bopI _ hx hy (by
    show pure (Value.int .u8 (IntKind.u8.wrap ((a.toNat : Int) * b.toNat))) = _
    rw [wrapU8, UInt8.toNat_mul, Int.natCast_emod, Int.natCast_mul]; rfl) h
theorem andU8 (hx : ev cx.n base L x = .int .u8 a.toNat) (hy : ev cx.n base L y = .int .u8 b.toNat) (h : JG cx md ops Q rest base ((d, .int .u8 (a &&& b).toNat) :: L) own ro) : JG cx md ops Q ((⟨some d, .binOp .and xt x y yt, ty, pos, aft, none⟩, q) :: rest) base L own ro :=
  bopI _ hx hy (by
    show pure (Value.int .u8 (IntKind.u8.wrap ((BitVec.ofInt IntKind.u8.bits (a.toNat : Int) &&& BitVec.ofInt IntKind.u8.bits (b.toNat : Int)).toNat : Nat))) = _
    rw [bvU8, bvU8]
    exact congrArg (fun n => pure (Value.int .u8 n)) (wrapTU8 (a &&& b))) h
theorem orU8 (hx : ev cx.n base L x = .int .u8 a.toNat) (hy : ev cx.n base L y = .int .u8 b.toNat) (h : JG cx md ops Q rest base ((d, .int .u8 (a ||| b).toNat) :: L) own ro) : JG cx md ops Q ((⟨some d, .binOp .or xt x y yt, ty, pos, aft, none⟩, q) :: rest) base L own ro :=
  bopI _ hx hy (by
    show pure (Value.int .u8 (IntKind.u8.wrap ((BitVec.ofInt IntKind.u8.bits (a.toNat : Int) ||| BitVec.ofInt IntKind.u8.bits (b.toNat : Int)).toNat : Nat))) = _
    rw [bvU8, bvU8]
    exact congrArg (fun n => pure (Value.int .u8 n)) (wrapTU8 (a ||| b))) h
theorem xorU8 (hx : ev cx.n base L x = .int .u8 a.toNat) (hy : ev cx.n base L y = .int .u8 b.toNat) (h : JG cx md ops Q rest base ((d, .int .u8 (a ^^^ b).toNat) :: L) own ro) : JG cx md ops Q ((⟨some d, .binOp .xor xt x y yt, ty, pos, aft, none⟩, q) :: rest) base L own ro :=
  bopI _ hx hy (by
    show pure (Value.int .u8 (IntKind.u8.wrap ((BitVec.ofInt IntKind.u8.bits (a.toNat : Int) ^^^ BitVec.ofInt IntKind.u8.bits (b.toNat : Int)).toNat : Nat))) = _
    rw [bvU8, bvU8]
    exact congrArg (fun n => pure (Value.int .u8 n)) (wrapTU8 (a ^^^ b))) h
theorem andNotU8 (hx : ev cx.n base L x = .int .u8 a.toNat) (hy : ev cx.n base L y = .int .u8 b.toNat) (h : JG cx md ops Q rest base ((d, .int .u8 (a &&& ~~~b).toNat) :: L) own ro) : JG cx md ops Q ((⟨some d, .binOp .andNot xt x y yt, ty, pos, aft, none⟩, q) :: rest) base L own ro :=
  bopI _ hx hy (by
    show pure (Value.int .u8 (IntKind.u8.wrap ((BitVec.ofInt IntKind.u8.bits (a.toNat : Int) &&& ~~~ BitVec.ofInt IntKind.u8.bits (b.toNat : Int)).toNat : Nat))) = _
    rw [bvU8, bvU8]
    exact congrArg (fun n => pure (Value.int .u8 n)) (wrapTU8 (a &&& ~~~b))) h
theorem quoU8 (hx : ev cx.n base L x = .int .u8 a.toNat) (hy : ev cx.n base L y = .int .u8 b.toNat) (hb : b ≠ 0) (h : JG cx md ops Q rest base ((d, .int .u8 (a / b).toNat) :: L) own ro) : JG cx md ops Q ((⟨some d, .binOp .quo xt x y yt, ty, pos, aft, none⟩, q) :: rest) base L own ro :=
  bopI _ hx hy (by
    have hb0 : ¬ ((b.toNat : Nat) : Int) = 0 := fun e => hb (UInt8.toNat_inj.1 (by simpa using e))
    show (if ((b.toNat : Nat) : Int) = 0 then _ else pure (Value.int .u8 (IntKind.u8.wrap ((a.toNat : Int).tdiv b.toNat)))) = _
    rw [if_neg hb0, ← Int.ofNat_tdiv, ← UInt8.toNat_div, wrapTU8]) h
theorem remU8 (hx : ev cx.n base L x = .int .u8 a.toNat) (hy : ev cx.n base L y = .int .u8 b.toNat) (hb : b ≠ 0) (h : JG cx md ops Q rest base ((d, .int .u8 (a % b).toNat) :: L) own ro) : JG cx md ops Q ((⟨some d, .binOp .rem xt x y yt, ty, pos, aft, none⟩, q) :: rest) base L own ro :=
  bopI _ hx hy (by
    have hb0 : ¬ ((b.toNat : Nat) : Int) = 0 := fun e => hb (UInt8.toNat_inj.1 (by simpa using e))
    show (if ((b.toNat : Nat) : Int) = 0 then _ else pure (Value.int .u8 ((a.toNat : Int).tmod b.toNat))) = _
    rw [if_neg hb0, UInt8.toNat_mod, Int.natCast_emod, Int.tmod_eq_emod_of_nonneg (by omega)]) h
theorem shlRU8 {i : Int} (n : Nat) (hx : ev cx.n base L x = .int .u8 a.toNat) (hy : ev cx.n base L y = .int k2 i) (hn : i = (n : Int)) (h : JG cx md ops Q rest base ((d, .int .u8 (shlU8 a n).toNat) :: L) own ro) : JG cx md ops Q ((⟨some d, .binOp .shl xt x y yt, ty, pos, aft, none⟩, q) :: rest) base L own ro :=
  bopI _ hx hy (by
    subst hn
    show Op.shift .shl .u8 _ k2 _ = _
    rw [shift_shl_any _ _ _ _ (by omega), wrapU8, shlU8_toNat, Int.toNat_natCast, show IntKind.u8.bits = 8 from rfl]
    congr 2
    rcases Nat.lt_or_ge n 8 with h | h
    · rw [Nat.min_eq_left (by omega), Int.natCast_emod, Int.natCast_mul, Int.natCast_pow]; rfl
    · rw [Nat.min_eq_right h]
      obtain ⟨j, rfl⟩ := Nat.exists_eq_add_of_le h
      rw [Nat.pow_add, ← Nat.mul_assoc, Nat.mul_right_comm, show (2 : Nat) ^ 8 = 256 by rfl, Nat.mul_mod_left, show (2 : Int) ^ 8 = 256 by rfl, Int.mul_emod_left]; rfl) h
theorem shrRU8 {i : Int} (n : Nat) (hx : ev cx.n base L x = .int .u8 a.toNat) (hy : ev cx.n base L y = .int k2 i) (hn : i = (n : Int)) (h : JG cx md ops Q rest base ((d, .int .u8 (shrU8 a n).toNat) :: L) own ro) : JG cx md ops Q ((⟨some d, .binOp .shr xt x y yt, ty, pos, aft, none⟩, q) :: rest) base L own ro :=
  bopI _ hx hy (by
    subst hn
    show Op.shift .shr .u8 _ k2 _ = _
    rw [shift_shr_any _ _ _ _ (by omega), shrU8_toNat, Int.toNat_natCast, show IntKind.u8.bits = 8 from rfl]
    congr 2
    have ha := a.toNat_lt
    rcases Nat.lt_or_ge n 8 with h | h
    · rw [Nat.min_eq_left (by omega), Int.natCast_ediv, Int.natCast_pow]; rfl
    · rw [Nat.min_eq_right h, Nat.div_eq_of_lt (Nat.lt_of_lt_of_le ha (Nat.pow_le_pow_right (by decide) h)), show (2 : Int) ^ 8 = 256 by rfl]
      omega) h
end
theorem cvNU8 {ds : TypeDesc} {src dst : TypeId} {n : Nat} (hx : ev cx.n base L x = .int k (n : Int)) (hs : cx.P.underlying src = some ds) (hd : cx.P.underlying dst = some (.int .u8))
    (h : JG cx md ops Q rest base ((d, .int .u8 (UInt8.ofNat n).toNat) :: L) own ro) : JG cx md ops Q ((⟨some d, .convert src dst x, ty, pos, aft, none⟩, q) :: rest) base L own ro :=
  cvI _ hx hs hd (by rw [wrapU8, UInt8.toNat_ofNat']; omega) h
theorem cvZU8 {ds : TypeDesc} {src dst : TypeId} {n : Int} (hx : ev cx.n base L x = .int k n) (hs : cx.P.underlying src = some ds) (hd : cx.P.underlying dst = some (.int .u8))
    (h : JG cx md ops Q rest base ((d, .int .u8 (UInt8.ofInt n).toNat) :: L) own ro) : JG cx md ops Q ((⟨some d, .convert src dst x, ty, pos, aft, none⟩, q) :: rest) base L own ro :=
  cvI _ hx hs hd (by rw [wrapU8]; show _ = (((UInt8.ofNat (n % 2 ^ 8).toNat).toNat : Nat) : Int); rw [UInt8.toNat_ofNat']; omega) h

/-! UInt16 -/
theorem bvU16 (a : UInt16) : BitVec.ofInt IntKind.u16.bits ((a.toNat : Nat) : Int) = a.toBitVec := by
  apply BitVec.eq_of_toNat_eq
  rw [BitVec.toNat_ofInt]
  have := a.toNat_lt
  show ((((a.toNat : Nat) : Int) % ((2 ^ 16 : Nat) : Int)).toNat) = a.toNat
  rw [show ((2 ^ 16 : Nat) : Int) = 65536 by rfl]
  omega
theorem wrapTU16 (a : UInt16) : IntKind.u16.wrap ((a.toNat : Nat) : Int) = ((a.toNat : Nat) : Int) := by
  have := a.toNat_lt
  rw [wrapU16]; omega
def shlU16 (a : UInt16) (n : Nat) : UInt16 := UInt16.ofNat (a.toNat <<< n)
def shrU16 (a : UInt16) (n : Nat) : UInt16 := UInt16.ofNat (a.toNat >>> n)
theorem shlU16_toNat (a : UInt16) (n : Nat) : (shlU16 a n).toNat = (a.toNat * 2 ^ n) % 65536 := by simp [shlU16, Nat.shiftLeft_eq]
theorem shrU16_toNat (a : UInt16) (n : Nat) : (shrU16 a n).toNat = a.toNat / 2 ^ n := by
  have h := a.toNat_lt
  have h2 : a.toNat / 2 ^ n ≤ a.toNat := Nat.div_le_self _ _
  simp only [shrU16, Nat.shiftRight_eq_div_pow, UInt16.toNat_ofNat']
  exact Nat.mod_eq_of_lt (by omega)
section
variable {a b : UInt16}
theorem addU16 (hx : ev cx.n base L x = .int .u16 a.toNat) (hy : ev cx.n base L y = .int .u16 b.toNat) (h : JG cx md ops Q rest base ((d, .int .u16 (a + b).toNat) :: L) own ro) : JG cx md ops Q ((⟨some d, .binOp .add xt x y yt, ty, pos, aft, none⟩, q) :: rest) base L own ro :=
  bopI _ hx hy (by
    show pure (Value.int .u16 (IntKind.u16.wrap ((a.toNat : Int) + b.toNat))) = _
    rw [wrapU16, UInt16.toNat_add]
    congr 2) h
theorem subU16 (hx : ev cx.n base L x = .int .u16 a.toNat) (hy : ev cx.n base L y = .int .u16 b.toNat) (h : JG cx md ops Q rest base ((d, .int .u16 (a - b).toNat) :: L) own ro) : JG cx md ops Q ((⟨some d, .binOp .sub xt x y yt, ty, pos, aft, none⟩, q) :: rest) base L own ro :=
  bopI _ hx hy (by
    show pure (Value.int .u16 (IntKind.u16.wrap ((a.toNat : Int) - b.toNat))) = _
    have h1 := a.toNat_lt
    have h2 := b.toNat_lt
    rw [wrapU16, UInt16.toNat_sub]
    congr 2
    omega) h
theorem mulU16 (hx : ev cx.n base L x = .int .u16 a.toNat) (hy : ev cx.n base L y = .int .u16 b.toNat) (h : JG cx md ops Q rest base ((d, .int .u16 (a * b).toNat) :: L) own ro) : JG cx md ops Q ((⟨some d, .binOp .mul xt x y yt, ty, pos, aft, none⟩, q) :: rest) base L own ro :=
  bopI _ hx hy (by
    show pure (Value.int .u16 (IntKind.u16.wrap ((a.toNat : Int) * b.toNat))) = _
    rw [wrapU16, UInt16.toNat_mul, Int.natCast_emod, Int.natCast_mul]; rfl) h
theorem andU16 (hx : ev cx.n base L x = .int .u16 a.toNat) (hy : ev cx.n base L y = .int .u16 b.toNat) (h : JG cx md ops Q rest base ((d, .int .u16 (a &&& b).toNat) :: L) own ro) : JG cx md ops Q ((⟨some d, .binOp .and xt x y yt, ty, pos, aft, none⟩, q) :: rest) base L own ro :=
  bopI _ hx hy (by
    show pure (Value.int .u16 (IntKind.u16.wrap ((BitVec.ofInt IntKind.u16.bits (a.toNat : Int) &&& BitVec.ofInt IntKind.u16.bits (b.toNat : Int)).toNat : Nat))) = _
    rw [bvU16, bvU16]
    exact congrArg (fun n => pure (Value.int .u16 n)) (wrapTU16 (a &&& b))) h
theorem orU16 (hx : ev cx.n base L x = .int .u16 a.toNat) (hy : ev cx.n base L y = .int .u16 b.toNat) (h : JG cx md ops Q rest base ((d, .int .u16 (a ||| b).toNat) :: L) own ro) : JG cx md ops Q ((⟨some d, .binOp .or xt x y yt, ty, pos, aft, none⟩, q) :: rest) base L own ro :=
  bopI _ hx hy (by
    show pure (Value.int .u16 (IntKind.u16.wrap ((BitVec.ofInt IntKind.u16.bits (a.toNat : Int) ||| BitVec.ofInt IntKind.u16.bits (b.toNat : Int)).toNat : Nat))) = _
    rw [bvU16, bvU16]
    exact congrArg (fun n => pure (Value.int .u16 n)) (wrapTU16 (a ||| b))) h
theorem xorU16 (hx : ev cx.n base L x = .int .u16 a.toNat) (hy : ev cx.n base L y = .int .u16 b.toNat) (h : JG cx md ops Q rest base ((d, .int .u16 (a ^^^ b).toNat) :: L) own ro) : JG cx md ops Q ((⟨some d, .binOp .xor xt x y yt, ty, pos, aft, none⟩, q) :: rest) base L own ro :=
  bopI _ hx hy (by
    show pure (Value.int .u16 (IntKind.u16.wrap ((BitVec.ofInt IntKind.u16.bits (a.toNat : Int) ^^^ BitVec.ofInt IntKind.u16.bits (b.toNat : Int)).toNat : Nat))) = _
    rw [bvU16, bvU16]
    exact congrArg (fun n => pure (Value.int .u16 n)) (wrapTU16 (a ^^^ b))) h
theorem andNotU16 (hx : ev cx.n base L x = .int .u16 a.toNat) (hy : ev cx.n base L y = .int .u16 b.toNat) (h : JG cx md ops Q rest base ((d, .int .u16 (a &&& ~~~b).toNat) :: L) own ro) : JG cx md ops Q ((⟨some d, .binOp .andNot xt x y yt, ty, pos, aft, none⟩, q) :: rest) base L own ro :=
  bopI _ hx hy (by
    show pure (Value.int .u16 (IntKind.u16.wrap ((BitVec.ofInt IntKind.u16.bits (a.toNat : Int) &&& ~~~ BitVec.ofInt IntKind.u16.bits (b.toNat : Int)).toNat : Nat))) = _
    rw [bvU16, bvU16]
    exact congrArg (fun n => pure (Value.int .u16 n)) (wrapTU16 (a &&& ~~~b))) h
theorem quoU16 (hx : ev cx.n base L x = .int .u16 a.toNat) (hy : ev cx.n base L y = .int .u16 b.toNat) (hb : b ≠ 0) (h : JG cx md ops Q rest base ((d, .int .u16 (a / b).toNat) :: L) own ro) : JG cx md ops Q ((⟨some d, .binOp .quo xt x y yt, ty, pos, aft, none⟩, q) :: rest) base L own ro :=
  bopI _ hx hy (by
    have hb0 : ¬ ((b.toNat : Nat) : Int) = 0 := fun e => hb (UInt16.toNat_inj.1 (by simpa using e))
    show (if ((b.toNat : Nat) : Int) = 0 then _ else pure (Value.int .u16 (IntKind.u16.wrap ((a.toNat : Int).tdiv b.toNat)))) = _
    rw [if_neg hb0, ← Int.ofNat_tdiv, ← UInt16.toNat_div, wrapTU16]) h
theorem remU16 (hx : ev cx.n base L x = .int .u16 a.toNat) (hy : ev cx.n base L y = .int .u16 b.toNat) (hb : b ≠ 0) (h : JG cx md ops Q rest base ((d, .int .u16 (a % b).toNat) :: L) own ro) : JG cx md ops Q ((⟨some d, .binOp .rem xt x y yt, ty, pos, aft, none⟩, q) :: rest) base L own ro :=
  bopI _ hx hy (by
    have hb0 : ¬ ((b.toNat : Nat) : Int) = 0 := fun e => hb (UInt16.toNat_inj.1 (by simpa using e))
    show (if ((b.toNat : Nat) : Int) = 0 then _ else pure (Value.int .u16 ((a.toNat : Int).tmod b.toNat))) = _
    rw [if_neg hb0, UInt16.toNat_mod, Int.natCast_emod, Int.tmod_eq_emod_of_nonneg (by omega)]) h
theorem shlRU16 {i : Int} (n : Nat) (hx : ev cx.n base L x = .int .u16 a.toNat) (hy : ev cx.n base L y = .int k2 i) (hn : i = (n : Int)) (h : JG cx md ops Q rest base ((d, .int .u16 (shlU16 a n).toNat) :: L) own ro) : JG cx md ops Q ((⟨some d, .binOp .shl xt x y yt, ty, pos, aft, none⟩, q) :: rest) base L own ro :=
  bopI _ hx hy (by
    subst hn
    show Op.shift .shl .u16 _ k2 _ = _
    rw [shift_shl_any _ _ _ _ (by omega), wrapU16, shlU16_toNat, Int.toNat_natCast, show IntKind.u16.bits = 16 from rfl]
    congr 2
    rcases Nat.lt_or_ge n 16 with h | h
    · rw [Nat.min_eq_left (by omega), Int.natCast_emod, Int.natCast_mul, Int.natCast_pow]; rfl
    · rw [Nat.min_eq_right h]
      obtain ⟨j, rfl⟩ := Nat.exists_eq_add_of_le h
      rw [Nat.pow_add, ← Nat.mul_assoc, Nat.mul_right_comm, show (2 : Nat) ^ 16 = 65536 by rfl, Nat.mul_mod_left, show (2 : Int) ^ 16 = 65536 by rfl, Int.mul_emod_left]; rfl) h
theorem shrRU16 {i : Int} (n : Nat) (hx : ev cx.n base L x = .int .u16 a.toNat) (hy : ev cx.n base L y = .int k2 i) (hn : i = (n : Int)) (h : JG cx md ops Q rest base ((d, .int .u16 (shrU16 a n).toNat) :: L) own ro) : JG cx md ops Q ((⟨some d, .binOp .shr xt x y yt, ty, pos, aft, none⟩, q) :: rest) base L own ro :=
  bopI _ hx hy (by
    subst hn
    show Op.shift .shr .u16 _ k2 _ = _
    rw [shift_shr_any _ _ _ _ (by omega), shrU16_toNat, Int.toNat_natCast, show IntKind.u16.bits = 16 from rfl]
    congr 2
    have ha := a.toNat_lt
    rcases Nat.lt_or_ge n 16 with h | h
    · rw [Nat.min_eq_left (by omega), Int.natCast_ediv, Int.natCast_pow]; rfl
    · rw [Nat.min_eq_right h, Nat.div_eq_of_lt (Nat.lt_of_lt_of_le ha (Nat.pow_le_pow_right (by decide) h)), show (2 : Int) ^ 16 = 65536 by rfl]
      omega) h
end
theorem cvNU16 {ds : TypeDesc} {src dst : TypeId} {n : Nat} (hx : ev cx.n base L x = .int k (n : Int)) (hs : cx.P.underlying src = some ds) (hd : cx.P.underlying dst = some (.int .u16))
    (h : JG cx md ops Q rest base ((d, .int .u16 (UInt16.ofNat n).toNat) :: L) own ro) : JG cx md ops Q ((⟨some d, .convert src dst x, ty, pos, aft, none⟩, q) :: rest) base L own ro :=
  cvI _ hx hs hd (by rw [wrapU16, UInt16.toNat_ofNat']; omega) h
theorem cvZU16 {ds : TypeDesc} {src dst : TypeId} {n : Int} (hx : ev cx.n base L x = .int k n) (hs : cx.P.underlying src = some ds) (hd : cx.P.underlying dst = some (.int .u16))
    (h : JG cx md ops Q rest base ((d, .int .u16 (UInt16.ofInt n).toNat) :: L) own ro) : JG cx md ops Q ((⟨some d, .convert src dst x, ty, pos, aft, none⟩, q) :: rest) base L own ro :=
  cvI _ hx hs hd (by rw [wrapU16]; show _ = (((UInt16.ofNat (n % 2 ^ 16).toNat).toNat : Nat) : Int); rw [UInt16.toNat_ofNat']; omega) h

/-! UInt32 -/
theorem bvU32 (a : UInt32) : BitVec.ofInt IntKind.u32.bits ((a.toNat : Nat) : Int) = a.toBitVec := by
  apply BitVec.eq_of_toNat_eq
  rw [BitVec.toNat_ofInt]
  have := a.toNat_lt
  show ((((a.toNat : Nat) : Int) % ((2 ^ 32 : Nat) : Int)).toNat) = a.toNat
  rw [show ((2 ^ 32 : Nat) : Int) = 4294967296 by rfl]
  omega
theorem wrapTU32 (a : UInt32) : IntKind.u32.wrap ((a.toNat : Nat) : Int) = ((a.toNat : Nat) : Int) := by
  have := a.toNat_lt
  rw [wrapU32]; omega
def shlU32 (a : UInt32) (n : Nat) : UInt32 := UInt32.ofNat (a.toNat <<< n)
def shrU32 (a : UInt32) (n : Nat) : UInt32 := UInt32.ofNat (a.toNat >>> n)
theorem shlU32_toNat (a : UInt32) (n : Nat) : (shlU32 a n).toNat = (a.toNat * 2 ^ n) % 4294967296 := by simp [shlU32, Nat.shiftLeft_eq]
theorem shrU32_toNat (a : UInt32) (n : Nat) : (shrU32 a n).toNat = a.toNat / 2 ^ n := by
  have h := a.toNat_lt
  have h2 : a.toNat / 2 ^ n ≤ a.toNat := Nat.div_le_self _ _
  simp only [shrU32, Nat.shiftRight_eq_div_pow, UInt32.toNat_ofNat']
  exact Nat.mod_eq_of_lt (by omega)
section
variable {a b : UInt32}
theorem addU32 (hx : ev cx.n base L x = .int .u32 a.toNat) (hy : ev cx.n base L y = .int .u32 b.toNat) (h : JG cx md ops Q rest base ((d, .int .u32 (a + b).toNat) :: L) own ro) : JG cx md ops Q ((⟨some d, .binOp .add xt x y yt, ty, pos, aft, none⟩, q) :: rest) base L own ro :=
  bopI _ hx hy (by
    show pure (Value.int .u32 (IntKind.u32.wrap ((a.toNat : Int) + b.toNat))) = _
    rw [wrapU32, UInt32.toNat_add]
    congr 2) h
theorem subU32 (hx : ev cx.n base L x = .int .u32 a.toNat) (hy : ev cx.n base L y = .int .u32 b.toNat) (h : JG cx md ops Q rest base ((d, .int .u32 (a - b).toNat) :: L) own ro) : JG cx md ops Q ((⟨some d, .binOp .sub xt x y yt, ty, pos, aft, none⟩, q) :: rest) base L own ro :=
  bopI _ hx hy (by
    show pure (Value.int .u32 (IntKind.u32.wrap ((a.toNat : Int) - b.toNat))) = _
    have h1 := a.toNat_lt
    have h2 := b.toNat_lt
    rw [wrapU32, UInt32.toNat_sub]
    congr 2
    omega) h
theorem mulU32 (hx : ev cx.n base L x = .int .u32 a.toNat) (hy : ev cx.n base L y = .int .u32 b.toNat) (h : JG cx md ops Q rest base ((d, .int .u32 (a * b).toNat) :: L) own ro) : JG cx md ops Q ((⟨some d, .binOp .mul xt x y yt, ty, pos, aft, none⟩, q) :: rest) base L own ro :=
  bopI _ hx hy (by
    show pure (Value.int .u32 (IntKind.u32.wrap ((a.toNat : Int) * b.toNat))) = _
    rw [wrapU32, UInt32.toNat_mul, Int.natCast_emod, Int.natCast_mul]; rfl) h
theorem andU32 (hx : ev cx.n base L x = .int .u32 a.toNat) (hy : ev cx.n base L y = .int .u32 b.toNat) (h : JG cx md ops Q rest base ((d, .int .u32 (a &&& b).toNat) :: L) own ro) : JG cx md ops Q ((⟨some d, .binOp .and xt x y yt, ty, pos, aft, none⟩, q) :: rest) base L own ro :=
  bopI _ hx hy (by
    show pure (Value.int .u32 (IntKind.u32.wrap ((BitVec.ofInt IntKind.u32.bits (a.toNat : Int) &&& BitVec.ofInt IntKind.u32.bits (b.toNat : Int)).toNat : Nat))) = _
    rw [bvU32, bvU32]
    exact congrArg (fun n => pure (Value.int .u32 n)) (wrapTU32 (a &&& b))) h
theorem orU32 (hx : ev cx.n base L x = .int .u32 a.toNat) (hy : ev cx.n base L y = .int .u32 b.toNat) (h : JG cx md ops Q rest base ((d, .int .u32 (a ||| b).toNat) :: L) own ro) : JG cx md ops Q ((⟨some d, .binOp .or xt x y yt, ty, pos, aft, none⟩, q) :: rest) base L own ro :=
  bopI _ hx hy (by
    show pure (Value.int .u32 (IntKind.u32.wrap ((BitVec.ofInt IntKind.u32.bits (a.toNat : Int) ||| BitVec.ofInt IntKind.u32.bits (b.toNat : Int)).toNat : Nat))) = _
    rw [bvU32, bvU32]
    exact congrArg (fun n => pure (Value.int .u32 n)) (wrapTU32 (a ||| b))) h
theorem xorU32 (hx : ev cx.n base L x = .int .u32 a.toNat) (hy : ev cx.n base L y = .int .u32 b.toNat) (h : JG cx md ops Q rest base ((d, .int .u32 (a ^^^ b).toNat) :: L) own ro) : JG cx md ops Q ((⟨some d, .binOp .xor xt x y yt, ty, pos, aft, none⟩, q) :: rest) base L own ro :=
  bopI _ hx hy (by
    show pure (Value.int .u32 (IntKind.u32.wrap ((BitVec.ofInt IntKind.u32.bits (a.toNat : Int) ^^^ BitVec.ofInt IntKind.u32.bits (b.toNat : Int)).toNat : Nat))) = _
    rw [bvU32, bvU32]
    exact congrArg (fun n => pure (Value.int .u32 n)) (wrapTU32 (a ^^^ b))) h
theorem andNotU32 (hx : ev cx.n base L x = .int .u32 a.toNat) (hy : ev cx.n base L y = .int .u32 b.toNat) (h : JG cx md ops Q rest base ((d, .int .u32 (a &&& ~~~b).toNat) :: L) own ro) : JG cx md ops Q ((⟨some d, .binOp .andNot xt x y yt, ty, pos, aft, none⟩, q) :: rest) base L own ro :=
  bopI _ hx hy (by
    show pure (Value.int .u32 (IntKind.u32.wrap ((BitVec.ofInt IntKind.u32.bits (a.toNat : Int) &&& ~~~ BitVec.ofInt IntKind.u32.bits (b.toNat : Int)).toNat : Nat))) = _
    rw [bvU32, bvU32]
    exact congrArg (fun n => pure (Value.int .u32 n)) (wrapTU32 (a &&& ~~~b))) h
theorem quoU32 (hx : ev cx.n base L x = .int .u32 a.toNat) (hy : ev cx.n base L y = .int .u32 b.toNat) (hb : b ≠ 0) (h : JG cx md ops Q rest base ((d, .int .u32 (a / b).toNat) :: L) own ro) : JG cx md ops Q ((⟨some d, .binOp .quo xt x y yt, ty, pos, aft, none⟩, q) :: rest) base L own ro :=
  bopI _ hx hy (by
    have hb0 : ¬ ((b.toNat : Nat) : Int) = 0 := fun e => hb (UInt32.toNat_inj.1 (by simpa using e))
    show (if ((b.toNat : Nat) : Int) = 0 then _ else pure (Value.int .u32 (IntKind.u32.wrap ((a.toNat : Int).tdiv b.toNat)))) = _
    rw [if_neg hb0, ← Int.ofNat_tdiv, ← UInt32.toNat_div, wrapTU32]) h
theorem remU32 (hx : ev cx.n base L x = .int .u32 a.toNat) (hy : ev cx.n base L y = .int .u32 b.toNat) (hb : b ≠ 0) (h : JG cx md ops Q rest base ((d, .int .u32 (a % b).toNat) :: L) own ro) : JG cx md ops Q ((⟨some d, .binOp .rem xt x y yt, ty, pos, aft, none⟩, q) :: rest) base L own ro :=
  bopI _ hx hy (by
    have hb0 : ¬ ((b.toNat : Nat) : Int) = 0 := fun e => hb (UInt32.toNat_inj.1 (by simpa using e))
    show (if ((b.toNat : Nat) : Int) = 0 then _ else pure (Value.int .u32 ((a.toNat : Int).tmod b.toNat))) = _
    rw [if_neg hb0, UInt32.toNat_mod, Int.natCast_emod, Int.tmod_eq_emod_of_nonneg (by omega)]) h
theorem shlRU32 {i : Int} (n : Nat) (hx : ev cx.n base L x = .int .u32 a.toNat) (hy : ev cx.n base L y = .int k2 i) (hn : i = (n : Int)) (h : JG cx md ops Q rest base ((d, .int .u32 (shlU32 a n).toNat) :: L) own ro) : JG cx md ops Q ((⟨some d, .binOp .shl xt x y yt, ty, pos, aft, none⟩, q) :: rest) base L own ro :=
  bopI _ hx hy (by
    subst hn
    show Op.shift .shl .u32 _ k2 _ = _
    rw [shift_shl_any _ _ _ _ (by omega), wrapU32, shlU32_toNat, Int.toNat_natCast, show IntKind.u32.bits = 32 from rfl]
    congr 2
    rcases Nat.lt_or_ge n 32 with h | h
    · rw [Nat.min_eq_left (by omega), Int.natCast_emod, Int.natCast_mul, Int.natCast_pow]; rfl
    · rw [Nat.min_eq_right h]
      obtain ⟨j, rfl⟩ := Nat.exists_eq_add_of_le h
      rw [Nat.pow_add, ← Nat.mul_assoc, Nat.mul_right_comm, show (2 : Nat) ^ 32 = 4294967296 by rfl, Nat.mul_mod_left, show (2 : Int) ^ 32 = 4294967296 by rfl, Int.mul_emod_left]; rfl) h
theorem shrRU32 {i : Int} (n : Nat) (hx : ev cx.n base L x = .int .u32 a.toNat) (hy : ev cx.n base L y = .int k2 i) (hn : i = (n : Int)) (h : JG cx md ops Q rest base ((d, .int .u32 (shrU32 a n).toNat) :: L) own ro) : JG cx md ops Q ((⟨some d, .binOp .shr xt x y yt, ty, pos, aft, none⟩, q) :: rest) base L own ro :=
  bopI _ hx hy (by
    subst hn
    show Op.shift .shr .u32 _ k2 _ = _
    rw [shift_shr_any _ _ _ _ (by omega), shrU32_toNat, Int.toNat_natCast, show IntKind.u32.bits = 32 from rfl]
    congr 2
    have ha := a.toNat_lt
    rcases Nat.lt_or_ge n 32 with h | h
    · rw [Nat.min_eq_left (by omega), Int.natCast_ediv, Int.natCast_pow]; rfl
    · rw [Nat.min_eq_right h, Nat.div_eq_of_lt (Nat.lt_of_lt_of_le ha (Nat.pow_le_pow_right (by decide) h)), show (2 : Int) ^ 32 = 4294967296 by rfl]
      omega) h
end
theorem cvNU32 {ds : TypeDesc} {src dst : TypeId} {n : Nat} (hx : ev cx.n base L x = .int k (n : Int)) (hs : cx.P.underlying src = some ds) (hd : cx.P.underlying dst = some (.int .u32))
    (h : JG cx md ops Q rest base ((d, .int .u32 (UInt32.ofNat n).toNat) :: L) own ro) : JG cx md ops Q ((⟨some d, .convert src dst x, ty, pos, aft, none⟩, q) :: rest) base L own ro :=
  cvI _ hx hs hd (by rw [wrapU32, UInt32.toNat_ofNat']; omega) h
theorem cvZU32 {ds : TypeDesc} {src dst : TypeId} {n : Int} (hx : ev cx.n base L x = .int k n) (hs : cx.P.underlying src = some ds) (hd : cx.P.underlying dst = some (.int .u32))
    (h : JG cx md ops Q rest base ((d, .int .u32 (UInt32.ofInt n).toNat) :: L) own ro) : JG cx md ops Q ((⟨some d, .convert src dst x, ty, pos, aft, none⟩, q) :: rest) base L own ro :=
  cvI _ hx hs hd (by rw [wrapU32]; show _ = (((UInt32.ofNat (n % 2 ^ 32).toNat).toNat : Nat) : Int); rw [UInt32.toNat_ofNat']; omega) h

/-! UInt64 -/
theorem bvU64 (a : UInt64) : BitVec.ofInt IntKind.u64.bits ((a.toNat : Nat) : Int) = a.toBitVec := by
  apply BitVec.eq_of_toNat_eq
  rw [BitVec.toNat_ofInt]
  have := a.toNat_lt
  show ((((a.toNat : Nat) : Int) % ((2 ^ 64 : Nat) : Int)).toNat) = a.toNat
  rw [show ((2 ^ 64 : Nat) : Int) = 18446744073709551616 by rfl]
  omega
theorem wrapTU64 (a : UInt64) : IntKind.u64.wrap ((a.toNat : Nat) : Int) = ((a.toNat : Nat) : Int) := by
  have := a.toNat_lt
  rw [wrapU64]; omega
def shlU64 (a : UInt64) (n : Nat) : UInt64 := UInt64.ofNat (a.toNat <<< n)
def shrU64 (a : UInt64) (n : Nat) : UInt64 := UInt64.ofNat (a.toNat >>> n)
theorem shlU64_toNat (a : UInt64) (n : Nat) : (shlU64 a n).toNat = (a.toNat * 2 ^ n) % 18446744073709551616 := by simp [shlU64, Nat.shiftLeft_eq]
theorem shrU64_toNat (a : UInt64) (n : Nat) : (shrU64 a n).toNat = a.toNat / 2 ^ n := by
  have h := a.toNat_lt
  have h2 : a.toNat / 2 ^ n ≤ a.toNat := Nat.div_le_self _ _
  simp only [shrU64, Nat.shiftRight_eq_div_pow, UInt64.toNat_ofNat']
  exact Nat.mod_eq_of_lt (by omega)
section
variable {a b : UInt64}
theorem addU64 (hx : ev cx.n base L x = .int .u64 a.toNat) (hy : ev cx.n base L y = .int .u64 b.toNat) (h : JG cx md ops Q rest base ((d, .int .u64 (a + b).toNat) :: L) own ro) : JG cx md ops Q ((⟨some d, .binOp .add xt x y yt, ty, pos, aft, none⟩, q) :: rest) base L own ro :=
  bopI _ hx hy (by
    show pure (Value.int .u64 (IntKind.u64.wrap ((a.toNat : Int) + b.toNat))) = _
    rw [wrapU64, UInt64.toNat_add]
    congr 2) h
theorem subU64 (hx : ev cx.n base L x = .int .u64 a.toNat) (hy : ev cx.n base L y = .int .u64 b.toNat) (h : JG cx md ops Q rest base ((d, .int .u64 (a - b).toNat) :: L) own ro) : JG cx md ops Q ((⟨some d, .binOp .sub xt x y yt, ty, pos, aft, none⟩, q) :: rest) base L own ro :=
  bopI _ hx hy (by
    show pure (Value.int .u64 (IntKind.u64.wrap ((a.toNat : Int) - b.toNat))) = _
    have h1 := a.toNat_lt
    have h2 := b.toNat_lt
    rw [wrapU64, UInt64.toNat_sub]
    congr 2
    omega) h
theorem mulU64 (hx : ev cx.n base L x = .int .u64 a.toNat) (hy : ev cx.n base L y = .int .u64 b.toNat) (h : JG cx md ops Q rest base ((d, .int .u64 (a * b).toNat) :: L) own ro) : JG cx md ops Q ((⟨some d, .binOp .mul xt x y yt, ty, pos, aft, none⟩, q) :: rest) base L own ro :=
  bopI _ hx hy (by
    show pure (Value.int .u64 (IntKind.u64.wrap ((a.toNat : Int) * b.toNat))) = _
    rw [wrapU64, UInt64.toNat_mul, Int.natCast_emod, Int.natCast_mul]; rfl) h
theorem andU64 (hx : ev cx.n base L x = .int .u64 a.toNat) (hy : ev cx.n base L y = .int .u64 b.toNat) (h : JG cx md ops Q rest base ((d, .int .u64 (a &&& b).toNat) :: L) own ro) : JG cx md ops Q ((⟨some d, .binOp .and xt x y yt, ty, pos, aft, none⟩, q) :: rest) base L own ro :=
  bopI _ hx hy (by
    show pure (Value.int .u64 (IntKind.u64.wrap ((BitVec.ofInt IntKind.u64.bits (a.toNat : Int) &&& BitVec.ofInt IntKind.u64.bits (b.toNat : Int)).toNat : Nat))) = _
    rw [bvU64, bvU64]
    exact congrArg (fun n => pure (Value.int .u64 n)) (wrapTU64 (a &&& b))) h
theorem orU64 (hx : ev cx.n base L x = .int .u64 a.toNat) (hy : ev cx.n base L y = .int .u64 b.toNat) (h : JG cx md ops Q rest base ((d, .int .u64 (a ||| b).toNat) :: L) own ro) : JG cx md ops Q ((⟨some d, .binOp .or xt x y yt, ty, pos, aft, none⟩, q) :: rest) base L own ro :=
  bopI _ hx hy (by
    show pure (Value.int .u64 (IntKind.u64.wrap ((BitVec.ofInt IntKind.u64.bits (a.toNat : Int) ||| BitVec.ofInt IntKind.u64.bits (b.toNat : Int)).toNat : Nat))) = _
    rw [bvU64, bvU64]
    exact congrArg (fun n => pure (Value.int .u64 n)) (wrapTU64 (a ||| b))) h
theorem xorU64 (hx : ev cx.n base L x = .int .u64 a.toNat) (hy : ev cx.n base L y = .int .u64 b.toNat) (h : JG cx md ops Q rest base ((d, .int .u64 (a ^^^ b).toNat) :: L) own ro) : JG cx md ops Q ((⟨some d, .binOp .xor xt x y yt, ty, pos, aft, none⟩, q) :: rest) base L own ro :=
  bopI _ hx hy (by
    show pure (Value.int .u64 (IntKind.u64.wrap ((BitVec.ofInt IntKind.u64.bits (a.toNat : Int) ^^^ BitVec.ofInt IntKind.u64.bits (b.toNat : Int)).toNat : Nat))) = _
    rw [bvU64, bvU64]
    exact congrArg (fun n => pure (Value.int .u64 n)) (wrapTU64 (a ^^^ b))) h
theorem andNotU64 (hx : ev cx.n base L x = .int .u64 a.toNat) (hy : ev cx.n base L y = .int .u64 b.toNat) (h : JG cx md ops Q rest base ((d, .int .u64 (a &&& ~~~b).toNat) :: L) own ro) : JG cx md ops Q ((⟨some d, .binOp .andNot xt x y yt, ty, pos, aft, none⟩, q) :: rest) base L own ro :=
  bopI _ hx hy (by
    show pure (Value.int .u64 (IntKind.u64.wrap ((BitVec.ofInt IntKind.u64.bits (a.toNat : Int) &&& ~~~ BitVec.ofInt IntKind.u64.bits (b.toNat : Int)).toNat : Nat))) = _
    rw [bvU64, bvU64]
    exact congrArg (fun n => pure (Value.int .u64 n)) (wrapTU64 (a &&& ~~~b))) h
theorem quoU64 (hx : ev cx.n base L x = .int .u64 a.toNat) (hy : ev cx.n base L y = .int .u64 b.toNat) (hb : b ≠ 0) (h : JG cx md ops Q rest base ((d, .int .u64 (a / b).toNat) :: L) own ro) : JG cx md ops Q ((⟨some d, .binOp .quo xt x y yt, ty, pos, aft, none⟩, q) :: rest) base L own ro :=
  bopI _ hx hy (by
    have hb0 : ¬ ((b.toNat : Nat) : Int) = 0 := fun e => hb (UInt64.toNat_inj.1 (by simpa using e))
    show (if ((b.toNat : Nat) : Int) = 0 then _ else pure (Value.int .u64 (IntKind.u64.wrap ((a.toNat : Int).tdiv b.toNat)))) = _
    rw [if_neg hb0, ← Int.ofNat_tdiv, ← UInt64.toNat_div, wrapTU64]) h
theorem remU64 (hx : ev cx.n base L x = .int .u64 a.toNat) (hy : ev cx.n base L y = .int .u64 b.toNat) (hb : b ≠ 0) (h : JG cx md ops Q rest base ((d, .int .u64 (a % b).toNat) :: L) own ro) : JG cx md ops Q ((⟨some d, .binOp .rem xt x y yt, ty, pos, aft, none⟩, q) :: rest) base L own ro :=
  bopI _ hx hy (by
    have hb0 : ¬ ((b.toNat : Nat) : Int) = 0 := fun e => hb (UInt64.toNat_inj.1 (by simpa using e))
    show (if ((b.toNat : Nat) : Int) = 0 then _ else pure (Value.int .u64 ((a.toNat : Int).tmod b.toNat))) = _
    rw [if_neg hb0, UInt64.toNat_mod, Int.natCast_emod, Int.tmod_eq_emod_of_nonneg (by omega)]) h
theorem shlRU64 {i : Int} (n : Nat) (hx : ev cx.n base L x = .int .u64 a.toNat) (hy : ev cx.n base L y = .int k2 i) (hn : i = (n : Int)) (h : JG cx md ops Q rest base ((d, .int .u64 (shlU64 a n).toNat) :: L) own ro) : JG cx md ops Q ((⟨some d, .binOp .shl xt x y yt, ty, pos, aft, none⟩, q) :: rest) base L own ro :=
  bopI _ hx hy (by
    subst hn
    show Op.shift .shl .u64 _ k2 _ = _
    rw [shift_shl_any _ _ _ _ (by omega), wrapU64, shlU64_toNat, Int.toNat_natCast, show IntKind.u64.bits = 64 from rfl]
    congr 2
    rcases Nat.lt_or_ge n 64 with h | h
    · rw [Nat.min_eq_left (by omega), Int.natCast_emod, Int.natCast_mul, Int.natCast_pow]; rfl
    · rw [Nat.min_eq_right h]
      obtain ⟨j, rfl⟩ := Nat.exists_eq_add_of_le h
      rw [Nat.pow_add, ← Nat.mul_assoc, Nat.mul_right_comm, show (2 : Nat) ^ 64 = 18446744073709551616 by rfl, Nat.mul_mod_left, show (2 : Int) ^ 64 = 18446744073709551616 by rfl, Int.mul_emod_left]; rfl) h
theorem shrRU64 {i : Int} (n : Nat) (hx : ev cx.n base L x = .int .u64 a.toNat) (hy : ev cx.n base L y = .int k2 i) (hn : i = (n : Int)) (h : JG cx md ops Q rest base ((d, .int .u64 (shrU64 a n).toNat) :: L) own ro) : JG cx md ops Q ((⟨some d, .binOp .shr xt x y yt, ty, pos, aft, none⟩, q) :: rest) base L own ro :=
  bopI _ hx hy (by
    subst hn
    show Op.shift .shr .u64 _ k2 _ = _
    rw [shift_shr_any _ _ _ _ (by omega), shrU64_toNat, Int.toNat_natCast, show IntKind.u64.bits = 64 from rfl]
    congr 2
    have ha := a.toNat_lt
    rcases Nat.lt_or_ge n 64 with h | h
    · rw [Nat.min_eq_left (by omega), Int.natCast_ediv, Int.natCast_pow]; rfl
    · rw [Nat.min_eq_right h, Nat.div_eq_of_lt (Nat.lt_of_lt_of_le ha (Nat.pow_le_pow_right (by decide) h)), show (2 : Int) ^ 64 = 18446744073709551616 by rfl]
      omega) h
end
theorem cvNU64 {ds : TypeDesc} {src dst : TypeId} {n : Nat} (hx : ev cx.n base L x = .int k (n : Int)) (hs : cx.P.underlying src = some ds) (hd : cx.P.underlying dst = some (.int .u64))
    (h : JG cx md ops Q rest base ((d, .int .u64 (UInt64.ofNat n).toNat) :: L) own ro) : JG cx md ops Q ((⟨some d, .convert src dst x, ty, pos, aft, none⟩, q) :: rest) base L own ro :=
  cvI _ hx hs hd (by rw [wrapU64, UInt64.toNat_ofNat']; omega) h
theorem cvZU64 {ds : TypeDesc} {src dst : TypeId} {n : Int} (hx : ev cx.n base L x = .int k n) (hs : cx.P.underlying src = some ds) (hd : cx.P.underlying dst = some (.int .u64))
    (h : JG cx md ops Q rest base ((d, .int .u64 (UInt64.ofInt n).toNat) :: L) own ro) : JG cx md ops Q ((⟨some d, .convert src dst x, ty, pos, aft, none⟩, q) :: rest) base L own ro :=
  cvI _ hx hs hd (by rw [wrapU64]; show _ = (((UInt64.ofNat (n % 2 ^ 64).toNat).toNat : Nat) : Int); rw [UInt64.toNat_ofNat']; omega) h

end
end Go.PW
