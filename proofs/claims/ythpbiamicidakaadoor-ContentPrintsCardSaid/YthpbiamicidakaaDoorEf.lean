/- The engine: how plain data stands in cells. No condition. -/
import Derived.Test.YthpbiamicidakaaDoorEe
namespace Go.PW
open Enc (enc val)
open Go

instance : Enc UInt8 := ⟨1, fun x => [.int .u8 x.toNat], fun x => .int .u8 x.toNat, false, fun _ => rfl, fun _ => .inr ⟨rfl, rfl⟩, fun x u hu => by rw [List.mem_singleton] at hu; subst hu; rfl⟩
instance : Enc UInt32 := ⟨1, fun x => [.int .u32 x.toNat], fun x => .int .u32 x.toNat, false, fun _ => rfl, fun _ => .inr ⟨rfl, rfl⟩, fun x u hu => by rw [List.mem_singleton] at hu; subst hu; rfl⟩
instance : Enc UInt64 := ⟨1, fun x => [.int .u64 x.toNat], fun x => .int .u64 x.toNat, false, fun _ => rfl, fun _ => .inr ⟨rfl, rfl⟩, fun x u hu => by rw [List.mem_singleton] at hu; subst hu; rfl⟩
instance : Enc Int := ⟨1, fun x => [.int .i64 x], fun x => .int .i64 x, false, fun _ => rfl, fun _ => .inr ⟨rfl, rfl⟩, fun x u hu => by rw [List.mem_singleton] at hu; subst hu; rfl⟩
instance : Enc Bool := ⟨1, fun x => [.bool x], fun x => .bool x, false, fun _ => rfl, fun _ => .inr ⟨rfl, rfl⟩, fun x u hu => by rw [List.mem_singleton] at hu; subst hu; rfl⟩

/-- An array. -/
structure Arr (α : Type) (n : Nat) where
  l : List α
  h : l.length = n
  deriving DecidableEq

theorem Arr.ext {α n} {a b : Arr α n} (h : a.l = b.l) : a = b := by cases a; cases b; simp at h; subst h; rfl

instance {α n} [Enc α] : Enc (Arr α n) := ⟨n * Enc.n α, fun x => encs x.l, fun x => .agg ⟨encs x.l⟩, true, fun x => by rw [encs_length, x.h], fun _ => .inl ⟨rfl, rfl⟩, fun x => encs_one x.l⟩

def zarr {α : Type} {n : Nat} [OfNat α 0] : Arr α n := ⟨List.replicate n 0, by simp⟩
def Arr.set {α : Type} {n : Nat} (a : Arr α n) (k : Nat) (x : α) : Arr α n := ⟨a.l.set k x, by simp [a.h]⟩
def Arr.get {α : Type} {n : Nat} (a : Arr α n) (k : Nat) (h : k < n) : α := a.l[k]'(by rw [a.h]; exact h)

theorem ndt {p : Prop} [Decidable p] (h : (!decide p) = true) : ¬p := by simpa using h
theorem ndf {p : Prop} [Decidable p] (h : (!decide p) = false) : p := by simpa using h

abbrev Key := Arr UInt8 32

structure Spare where
  header : Key
  n : UInt32
  message : Key
  deriving DecidableEq
def Spare.parts (s : Spare) : List Pt := [pt s.header, pt s.n, pt s.message]
instance : Enc Spare := ⟨65, fun s => cat s.parts, fun s => .agg ⟨cat s.parts⟩, true, fun s => cat_length s.parts, fun _ => .inl ⟨rfl, rfl⟩, fun s => cat_one s.parts⟩
instance : Flds Spare := ⟨Spare.parts, fun _ => rfl⟩

structure SpP where
  header : Key
  n : UInt32
  deriving DecidableEq
def SpP.parts (s : SpP) : List Pt := [pt s.header, pt s.n]
instance : Enc SpP := ⟨33, fun s => cat s.parts, fun s => .agg ⟨cat s.parts⟩, true, fun s => cat_length s.parts, fun _ => .inl ⟨rfl, rfl⟩, fun s => cat_one s.parts⟩
instance : Flds SpP := ⟨SpP.parts, fun _ => rfl⟩

/-- What a slice's one cell holds. -/
structure SlH where
  a : Option Addr
  n : Nat
  c : Nat
  deriving DecidableEq
instance : Enc SlH := ⟨1, fun x => [.slice x.a x.n x.c], fun x => .slice x.a x.n x.c, false, fun _ => rfl, fun _ => .inr ⟨rfl, rfl⟩, fun x u hu => by rw [List.mem_singleton] at hu; subst hu; rfl⟩

end Go.PW
