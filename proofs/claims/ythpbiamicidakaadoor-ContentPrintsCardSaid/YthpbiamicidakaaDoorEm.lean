/- The engine: divisions, and more sources of an append. No condition. -/
import Derived.Test.YthpbiamicidakaaDoorEl
namespace Go.PW
open Enc (enc val)
open Go

section
variable {cx : Cx} {md : Md} {ops : Array Oper} {Q : Exit → Act → World → Prop} {rest : List (Oper × Nat)} {kq : Nat} {base : Nat → Value} {L : List (Nat × Value)} {own ro : List Seg}
variable {q : Nat} {d : Nat} {ty : TypeId} {pos : String} {aft : Array Edge} {x y z : Operand} {xt yt : TypeId} {P : Program}

theorem remi {k : IntKind} {a b : Int} (hx : ev cx.n base L x = .int k a) (hy : ev cx.n base L y = .int k b) (hb : b ≠ 0)
    (h : JG cx md ops Q rest base ((d, .int k (a.tmod b)) :: L) own ro) : JG cx md ops Q ((⟨some d, .binOp .rem xt x y yt, ty, pos, aft, none⟩, q) :: rest) base L own ro :=
  qt (fun w _ => by
    simp [execOp, hx, hy, binOp, Op.intDiv, eqGuard_at_int, hb]) h

theorem gives_ow {α : Type} [Enc α] {S : List Seg} {o : Ow} {ys : List α} {E : Nat} (j : Nat) (hok : o.ok ys) (hs : S[j]? = some (o.seg ys E)) : Gives P S (.slice o.adr ys.length o.cap) ys := by
  cases hn : o.nl with
  | true =>
    obtain ⟨rfl, h2⟩ := hok.nl hn
    have : o.adr = none := by simp [Ow.adr, hn]
    rw [this]; exact gives_nil
  | false =>
    have : o.adr = some ⟨o.b, 0, none⟩ := by simp [Ow.adr, hn]
    rw [this]
    exact gives_own (E := E) (pre := []) (post := o.sp) j (by rw [hs]; simp [Ow.seg, hn]) rfl rfl
/-- The end of a row of its own. -/
theorem gives_tail {α : Type} [Enc α] {S : List Seg} {o : Ow} {xs : List α} {E len cap : Nat} {a : Option Addr} (j l : Nat) (hok : o.ok xs) (hl : l ≤ xs.length) (hs : S[j]? = some (o.seg xs E)) (ha : a = (o.vs.sub l (Enc.n α)).adr) (hn : len = (xs.drop l).length) : Gives P S (.slice a len cap) (xs.drop l) := by
  subst hn
  by_cases h0 : l = xs.length
  · have : xs.drop l = [] := by rw [h0, List.drop_length]
    rw [this]; exact gives_none
  · have hnl := Ow.ne hok (i := l) (by omega)
    have hc : ¬ o.vs.cap = l := fun e => by have h1 : o.cap = l := e; have := hok.le; omega
    have e1 : a = some ⟨o.b, l * Enc.n α, none⟩ := by
      rw [ha]
      show (if o.nl then (if o.vs.cap = l then o.vs.wa else o.vs.wa.map (·.add (l * Enc.n α))) else some (⟨o.b, if o.vs.cap = l then o.vs.off else o.vs.off + l * Enc.n α, none⟩ : Addr)) = _
      simp only [hnl, if_neg hc, Bool.false_eq_true, if_false]; simp [Ow.vs]
    rw [e1]
    exact gives_own (pre := encs (xs.take l)) (post := o.sp) j (by rw [hs]; simp only [Ow.seg, hnl]; rfl) (by rw [← List.append_assoc, ← encs_append, List.take_append_drop]) (by rw [encs_length, List.length_take, Nat.min_eq_left hl])
end
end Go.PW
