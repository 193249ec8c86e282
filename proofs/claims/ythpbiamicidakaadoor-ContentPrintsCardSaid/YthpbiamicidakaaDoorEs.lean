/- The data of a message's content. No condition. -/
import Derived.Test.YthpbiamicidakaaDoorEr
namespace Go.PW
open Enc (enc val)
open Go

/-- A range of bytes that may follow a first one. -/
structure AccR where
  lo : UInt8
  hi : UInt8
  deriving DecidableEq
def AccR.parts (s : AccR) : List Pt := [pt s.lo, pt s.hi]
instance : Enc AccR := ⟨2, fun s => cat s.parts, fun s => .agg ⟨cat s.parts⟩, true, fun s => cat_length s.parts, fun _ => .inl ⟨rfl, rfl⟩, fun s => cat_one s.parts⟩
instance : Flds AccR := ⟨AccR.parts, fun _ => rfl⟩

/-- A content without its marks. -/
structure Con where
  kind : Int
  text : Str
  lat : F64
  long : F64
  number : UInt64
  key : Key
/-- What a law says of a content, without the marks. -/
structure Sai where
  kind : Int
  text : Str
  lat : UInt64
  long : UInt64
  number : UInt64
  key : Key
/-- A content that can be compared. -/
structure Bare where
  kind : Int
  text : Str
  lat : UInt64
  long : UInt64
  number : UInt64
  key : Key
  deriving DecidableEq
def Bare.parts (s : Bare) : List Pt := [pt s.kind, pt s.text, pt s.lat, pt s.long, pt s.number, pt s.key]
instance : Enc Bare := ⟨37, fun s => cat s.parts, fun s => .agg ⟨cat s.parts⟩, true, fun s => cat_length s.parts, fun _ => .inl ⟨rfl, rfl⟩, fun s => cat_one s.parts⟩
instance : Flds Bare := ⟨Bare.parts, fun _ => rfl⟩
def Con.bare (c : Con) : Bare := ⟨c.kind, c.text, c.lat.b, c.long.b, c.number, c.key⟩
def Sai.con (s : Sai) : Con := ⟨s.kind, s.text, ⟨s.lat⟩, ⟨s.long⟩, s.number, s.key⟩
end Go.PW
