/- What the joins of this seat share. No condition. -/
import Derived.Test.YthpbiamicidakaaDoorProg
import Derived.Test.YthpbiamicidakaaDoorEw
import Derived.Test.YthpbiamicidakaaDoorRows
import Derived.WalkKit
import Derived.ProofKit
import Derived.OpenShut
namespace Go.Proofs.YthpbiamicidakaaDoor
open Go Go.ChangeShapes Go.WideShapes Go.ChangeAt Go.RowKit Go.PW
open Go.PW.Enc (enc val)
theorem own : ownKnob Tryd.prog.godebug = none := by kernel_rfl
theorem kids : Kids Tryd.prog (· < Tryd.prog.types.size) := kids_rows (by kernel_rfl) (by kernel_rfl)
theorem full : ∀ t e, t < Tryd.prog.types.size → Tryd.prog.underlying t = some (.slice e) → 0 < Tryd.prog.cellsOf e := slices_full_of _ (by kernel_rfl)
theorem opn25 : Opn Tryd.prog 25 Key := opn_arr (n := 32) Tryd.underlying25 (by kernel_rfl) (by kernel_rfl) (opn_u8 Tryd.underlying5)
set_option maxRecDepth 100000 in
/-- What a law says of a content, opened. -/
theorem open_said {H : Type} {encH : TypeId × Value → H} {W : World} {base : Nat} {v : Value} {d : DataW H} {p : List MemPlace} (hval : Value.okWide Tryd.prog W .any base 27 v) (h : DataW.Trod encH Tryd.prog W 0 (fun _ => true) true 27 v d p) (hw : ∀ n ∈ d.weights Tryd.prog 27, n ≤ reachBytes) :
    ∃ (s : Sai) (sm : Vs) (ms : List UInt32), sm.ok ms ∧ ms.length ≤ 35184372088832 ∧ SegIn W (sm.seg ms) ∧ s.text.length ≤ 9223372036854775807 ∧ v = .agg ⟨cat [pt s.kind, pt s.text, p1 (.slice sm.adr ms.length sm.cap), pt s.lat, pt s.long, pt s.number, pt s.key]⟩ := by
  obtain ⟨cs, fuel, rfl, hf⟩ := open_agg Tryd.underlying27 hval h
  obtain ⟨hl, n, hf⟩ := open_fields Tryd.underlying27 hf hw
  obtain ⟨d0, p0, h0, w0⟩ := hf 0 _ rfl
  obtain ⟨d1, p1, h1, w1⟩ := hf 1 _ rfl
  obtain ⟨d2, p2, h2, w2⟩ := hf 2 _ rfl
  obtain ⟨d3, p3, h3, w3⟩ := hf 3 _ rfl
  obtain ⟨d4, p4, h4, w4⟩ := hf 4 _ rfl
  obtain ⟨d5, p5, h5, w5⟩ := hf 5 _ rfl
  obtain ⟨d6, p6, h6, w6⟩ := hf 6 _ rfl
  obtain ⟨kind, e0⟩ := opn_i64 Tryd.underlying3 h0
  obtain ⟨text, e1, ht⟩ := opn_str Tryd.underlying9 h1 w1
  obtain ⟨sm, ms, e2, hok, hseg, hsz, _⟩ := Go.PW.open_row Tryd.underlying22 (by kernel_rfl) (by decide) (OpnM.of (opn_u32 Tryd.underlying47)) h2 w2
  obtain ⟨lat, e3⟩ := opn_u64 Tryd.underlying23 h3
  obtain ⟨long, e4⟩ := opn_u64 Tryd.underlying23 h4
  obtain ⟨number, e5⟩ := opn_u64 Tryd.underlying23 h5
  obtain ⟨key, e6⟩ := opn25 h6
  refine ⟨⟨kind, text, lat, long, number, key⟩, sm, ms, hok, ?_, hseg, ht, ?_⟩
  · rw [show Tryd.prog.bytesOf 47 = 4 by kernel_rfl, show reachBytes = 140737488351232 from rfl] at hsz
    omega
  · have hg := glue (cs := cs) [1, 1, 1, 1, 1, 1, 32] 0 (by rw [hl]; kernel_rfl)
    rw [List.drop_zero] at hg
    rw [hg]
    replace e0 : List.take (Tryd.prog.cellsOf 3) (List.drop 0 cs) = enc kind := e0
    replace e1 : List.take (Tryd.prog.cellsOf 9) (List.drop 1 cs) = enc text := e1
    replace e2 : List.take (Tryd.prog.cellsOf 22) (List.drop 2 cs) = [.slice sm.adr ms.length sm.cap] := e2
    replace e3 : List.take (Tryd.prog.cellsOf 23) (List.drop 3 cs) = enc lat := e3
    replace e4 : List.take (Tryd.prog.cellsOf 23) (List.drop 4 cs) = enc long := e4
    replace e5 : List.take (Tryd.prog.cellsOf 23) (List.drop 5 cs) = enc number := e5
    replace e6 : List.take (Tryd.prog.cellsOf 25) (List.drop 6 cs) = enc key := e6
    rw [show Tryd.prog.cellsOf 3 = 1 by kernel_rfl] at e0
    rw [show Tryd.prog.cellsOf 9 = 1 by kernel_rfl] at e1
    rw [show Tryd.prog.cellsOf 22 = 1 by kernel_rfl] at e2
    rw [show Tryd.prog.cellsOf 23 = 1 by kernel_rfl] at e3 e4 e5
    rw [show Tryd.prog.cellsOf 25 = 32 by kernel_rfl] at e6
    simp only [pieces, Nat.zero_add, Nat.reduceAdd, e0, e1, e2, e3, e4, e5, e6, List.flatten_cons, List.flatten_nil, List.append_nil]
    rfl
theorem g1 : Tryd.prog.globalNamed "unicode/utf8.first" = some 1 := by kernel_rfl
theorem g2 : Tryd.prog.globalNamed "unicode/utf8.acceptRanges" = some 2 := by kernel_rfl
theorem tg1 : (Tryd.prog.globals[1]?).map (·.type) = some 121 := by kernel_rfl
theorem tg2 : (Tryd.prog.globals[2]?).map (·.type) = some 124 := by kernel_rfl
set_option maxRecDepth 100000 in
theorem laid_first {W : World} {l : List (String × DataW Unit)} {ps : List MemPlace} (h : DataW.LaidVars Tryd.prog W l ps) (hm : ("unicode/utf8.first", Go.Pinned.utf8First) ∈ l) : SegIn W (tFirst 1) :=
  laid_row (⟨firstL, by kernel_rfl⟩ : Arr UInt8 256) g1 tg1 (opnD_arr Tryd.underlying121 (by kernel_rfl) (by kernel_rfl) (opnD_u8 Tryd.underlying5)) (fun h => dU8_inj h) (by kernel_rfl) (laid_one h hm)
set_option maxRecDepth 100000 in
theorem laid_acc {W : World} {l : List (String × DataW Unit)} {ps : List MemPlace} (h : DataW.LaidVars Tryd.prog W l ps) (hm : ("unicode/utf8.acceptRanges", Rows.laid_unicode_utf8_acceptRanges) ∈ l) : SegIn W (tAcc 2) :=
  laid_row (⟨accL, by kernel_rfl⟩ : Arr AccR 16) g2 tg2 (opnD_arr Tryd.underlying124 (by kernel_rfl) (by kernel_rfl) (opnD_acc Tryd.underlying123 rfl rfl rfl rfl Tryd.underlying5 (by kernel_rfl) (by kernel_rfl))) (fun h => dAcc_inj h) (by kernel_rfl) (laid_one h hm)
/-- A world in which the listed variables read as they are said to. -/
noncomputable def laidW (os : Os) : World :=
  { World.doorLaid Tryd.prog 400 os with heap := (World.doorLaid Tryd.prog 400 os).heap.modify 1 fun
      | .cells _ t fr => .cells ⟨encs firstL⟩ t fr
      | o => o }
/-- A law's input to begin with. -/
def zsaid : Value := .agg ⟨cat [pt (0 : Int), pt ([] : Str), p1 (.slice none 0 0), pt (0 : UInt64), pt (0 : UInt64), pt (0 : UInt64), pt (zarr : Key)]⟩
end Go.Proofs.YthpbiamicidakaaDoor
