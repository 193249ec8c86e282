/- Scripts of operations, opened. No condition. -/
import Derived.Test.YtacfjmjcgolhfaaJ0
import Derived.Test.YtacfjmjcgolhfaaEq
import Derived.Test.YtacfjmjcgolhfaaA18
namespace Go.Proofs.Ytacfjmjcgolhfaa
open Go.ChangeShapes Go.WideShapes Go.ChangeAt Go.RowKit Go.PW
open Go.PW.Enc (enc val)
theorem opn4 : Opn Try.prog 4 Bool := fun {H encH w base sp held fuel cs x} hx => by
  obtain ⟨b, rfl, _⟩ := DataW.trod_bool Try.underlying4 hx
  exact ⟨b, rfl⟩
def OpOk (w : World) (o : OpR) : Prop := SegIn w (o.s.seg o.l) ∧ o.s.ok o.l ∧ o.l.length ≤ 2199023255552
theorem opn57 : OpnM Try.prog 57 OpR OpOk := fun {H encH w base sp held fuel cs d pl} hx hw => by
  obtain ⟨hl, n, hf⟩ := open_fields Try.underlying57 hx hw
  obtain ⟨d0, p0, h0, w0⟩ := hf 0 _ rfl
  obtain ⟨d1, p1, h1, w1⟩ := hf 1 _ rfl
  obtain ⟨d2, p2, h2, w2⟩ := hf 2 _ rfl
  obtain ⟨d3, p3, h3, w3⟩ := hf 3 _ rfl
  obtain ⟨d4, p4, h4, w4⟩ := hf 4 _ rfl
  obtain ⟨d5, p5, h5, w5⟩ := hf 5 _ rfl
  obtain ⟨kind, e0⟩ := opn_i64 Try.underlying3 h0
  obtain ⟨other, e1⟩ := opn4 h1
  obtain ⟨s, l, e2, hok, hseg, hsz, _⟩ := open_row Try.underlying22 (by kernel_rfl) (by decide) (OpnM.of opn33) h2 w2
  obtain ⟨header, e3⟩ := opn30 h3
  obtain ⟨nn, e4⟩ := opn_u32 Try.underlying31 h4
  obtain ⟨count, e5⟩ := opn_i64 Try.underlying3 h5
  refine ⟨⟨kind, other, s, l, header, nn, count⟩, ?_, hseg, hok, ?_⟩
  · have hg := glue (cs := cs) [1, 1, 1, 32, 1, 1] 0 (by rw [hl]; kernel_rfl)
    rw [List.drop_zero] at hg
    rw [hg]
    have c3 : Try.prog.cellsOf 3 = 1 := by kernel_rfl
    have c4 : Try.prog.cellsOf 4 = 1 := by kernel_rfl
    have c22 : Try.prog.cellsOf 22 = 1 := by kernel_rfl
    have c30 : Try.prog.cellsOf 30 = 32 := by kernel_rfl
    have c31 : Try.prog.cellsOf 31 = 1 := by kernel_rfl
    replace e0 : List.take (Try.prog.cellsOf 3) (List.drop 0 cs) = enc kind := e0
    replace e1 : List.take (Try.prog.cellsOf 4) (List.drop 1 cs) = enc other := e1
    replace e2 : List.take (Try.prog.cellsOf 22) (List.drop 2 cs) = [.slice s.adr l.length s.cap] := e2
    replace e3 : List.take (Try.prog.cellsOf 30) (List.drop 3 cs) = enc header := e3
    replace e4 : List.take (Try.prog.cellsOf 31) (List.drop 35 cs) = enc nn := e4
    replace e5 : List.take (Try.prog.cellsOf 3) (List.drop 36 cs) = enc count := e5
    rw [c3] at e0 e5; rw [c4] at e1; rw [c22] at e2; rw [c30] at e3; rw [c31] at e4
    show (pieces cs 0 [1, 1, 1, 32, 1, 1]).flatten = cat (OpR.parts ⟨kind, other, s, l, header, nn, count⟩)
    simp only [pieces, Nat.zero_add, Nat.reduceAdd, e0, e1, e2, e3, e4, e5, List.flatten_cons, List.flatten_nil, List.append_nil]
    rfl
  · rw [show Try.prog.bytesOf 33 = 68 by kernel_rfl, show reachBytes = 140737488351232 from rfl] at hsz
    show l.length ≤ 2199023255552
    omega
theorem open_ops {H : Type} {encH : TypeId × Value → H} {W : World} {v : Value} {d : DataW H} {p : List MemPlace} (h : DataW.Trod encH Try.prog W 0 (fun _ => true) true 54 v d p) (hw : ∀ n ∈ d.weights Try.prog 54, n ≤ reachBytes) (hv : Value.okWide Try.prog W .any 0 54 v) :
    ∃ (t : Vs) (sc : List OpR), t.ok sc ∧ v = t.v sc.length ∧ SegIn W (t.seg sc) ∧ SegIn W (opsSeg sc) ∧ (∀ o ∈ sc, o.s.ok o.l ∧ o.l.length ≤ 2199023255552) ∧ sc.length ≤ 2199023255552 := by
  obtain ⟨fuel, hf⟩ := h
  have hone : v.cells.toList = [v] := by
    simp only [Value.okWide, Try.underlying54, Cell.okWide, Cell.ok] at hv
    cases v <;> simp_all [Value.cells]
  rw [hone] at hf
  obtain ⟨t, sc, e, hok, hseg, hsz, hall⟩ := open_row Try.underlying54 (by kernel_rfl) (by decide) opn57 hf hw
  simp only [List.cons.injEq, and_true] at e
  refine ⟨t, sc, hok, e, hseg, ?_, fun o ho => (hall o ho).2, ?_⟩
  · intro q hq
    obtain ⟨o, ho, hq⟩ := List.mem_flatMap.1 hq
    exact (hall o ho).1 q hq
  · rw [show Try.prog.bytesOf 57 = 88 by kernel_rfl, show reachBytes = 140737488351232 from rfl] at hsz
    omega
end Go.Proofs.Ytacfjmjcgolhfaa
