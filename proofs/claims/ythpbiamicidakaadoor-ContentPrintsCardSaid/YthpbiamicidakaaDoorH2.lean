/- The engine: numbers that are written out, shifts of whole numbers. No condition. -/
import Derived.Test.YthpbiamicidakaaDoorH1
namespace Go.PW
open Enc (enc val)
open Go
section
variable {cx : Cx} {md : Md} {ops : Array Oper} {Q : Exit → Act → World → Prop} {rest : List (Oper × Nat)} {kq : Nat} {base : Nat → Value} {L : List (Nat × Value)} {own ro : List Seg}
variable {q : Nat} {d : Nat} {ty : TypeId} {pos : String} {aft : Array Edge} {x y z : Operand} {xt yt : TypeId} {k k2 : IntKind}

theorem negC {a : Int} (r : Int) (hx : ev cx.n base L x = .int k a) (hr : k.wrap (0 - a) = r) (h : JG cx md ops Q rest base ((d, .int k r) :: L) own ro) : JG cx md ops Q ((⟨some d, .unOp .neg xt x, ty, pos, aft, none⟩, q) :: rest) base L own ro :=
  negW hx (by rw [hr]; exact h)
/-- What is left of a number that is not negative. -/
theorem remn {a b : Nat} (hx : ev cx.n base L x = .int k (a : Int)) (hy : ev cx.n base L y = .int k (b : Int)) (hb : b ≠ 0)
    (h : JG cx md ops Q rest base ((d, .int k ((a % b : Nat) : Int)) :: L) own ro) : JG cx md ops Q ((⟨some d, .binOp .rem xt x y yt, ty, pos, aft, none⟩, q) :: rest) base L own ro :=
  remi hx hy (by omega) (by rw [← Int.ofNat_tmod]; exact h)
/-- A whole number, shifted down. -/
theorem shrI {a i m : Int} (n : Nat) (hx : ev cx.n base L x = .int .i64 a) (hy : ev cx.n base L y = .int k2 i) (hn : i = (n : Int)) (hm : (2 : Int) ^ (min n 64) = m) (h : JG cx md ops Q rest base ((d, .int .i64 (a / m)) :: L) own ro) : JG cx md ops Q ((⟨some d, .binOp .shr xt x y yt, ty, pos, aft, none⟩, q) :: rest) base L own ro :=
  bopI _ hx hy (by
    subst hn
    show Op.shift .shr .i64 _ k2 _ = _
    rw [shift_shr_any _ _ _ _ (by omega), Int.toNat_natCast, show IntKind.i64.bits = 64 from rfl, hm]) h
/-- The bytes of a row of its own, as a string; it stays. -/
theorem cvBO {o : Ow} {ys : Str} {E len : Nat} {src dst e : TypeId} (j : Nat) (hok : o.ok ys) (hx : ev cx.n base L x = .slice o.adr len o.cap) (hl : len = ys.length) (hs : (Src md q own ro)[j]? = some (o.seg ys E)) (hsrc : cx.P.underlying src = some (.slice e)) (hd : cx.P.underlying dst = some .string) (he : cx.P.underlying e = some (.int .u8))
    (h : JG cx md ops Q rest base ((d, strV ys) :: L) own ro) : JG cx md ops Q ((⟨some d, .convert src dst x, ty, pos, aft, none⟩, q) :: rest) base L own ro := by
  cases hn : o.nl with
  | true =>
    obtain ⟨rfl, h2⟩ := hok.nl hn
    have ha : o.adr = none := by simp [Ow.adr, hn]
    rw [ha] at hx
    exact cvBS (s := ⟨true, 0, 0, o.cap, none⟩) j ⟨fun _ => rfl, Nat.zero_le _⟩ hx hl (by rw [hs]; simp [Ow.seg, Vs.seg, hn]) hsrc hd he h
  | false =>
    have ha : o.adr = some ⟨o.b, 0, none⟩ := by simp [Ow.adr, hn]
    rw [ha] at hx
    exact cvC (pre := []) (post := o.sp) j hx hl (by rw [hs]; simp only [Ow.seg, hn]; rfl) rfl rfl hsrc hd he h
end
theorem ow_cap {o : Ow} {ys : Str} (h : o.ok ys) (hl : 0 < ys.length) : o.cap ≠ 0 ∨ o.adr = none := .inl (by have := h.le; omega)
end Go.PW
