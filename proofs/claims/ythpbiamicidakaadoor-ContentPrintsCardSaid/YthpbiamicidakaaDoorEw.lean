/- The join: strings, structs and laid variables opened. No condition. -/
import Derived.Test.YthpbiamicidakaaDoorEu
import Derived.LaidLaws
import Derived.LaidMore
import Derived.Handed
import Derived.Stop.Joined
namespace Go.PW
open Enc (enc val)
open Go Go.ChangeShapes Go.WideShapes Go.RowKit Go.Deep

section
variable {P : Program}
theorem opn_u64 {t : TypeId} (hu : P.underlying t = some (.int .u64)) : Opn P t UInt64 := opn_int hu fun n hw => by
  have : 0 ≤ n ∧ n ≤ 18446744073709551615 := by simpa [Lit.wf, IntKind.min, IntKind.max, IntKind.signed, IntKind.bits] using hw
  refine ⟨UInt64.ofNat n.toNat, ?_⟩
  show [Value.int .u64 n] = [Value.int .u64 ((UInt64.ofNat n.toNat).toNat : Nat)]
  rw [UInt64.toNat_ofNat_of_lt' (by show n.toNat < 18446744073709551616; omega)]
  rw [Int.toNat_of_nonneg this.1]
theorem opn_str {t : TypeId} (hu : P.underlying t = some .string) : OpnM P t Str fun _ s => s.length ≤ 9223372036854775807 := fun hx _ => by
  obtain ⟨s, rfl, _, hl⟩ := DataW.trod_string hu hx
  exact ⟨s.data.toList, rfl, hl⟩
theorem opn_bool {t : TypeId} (hu : P.underlying t = some .bool) : Opn P t Bool := fun {H encH w base sp held fuel cs x} hx => by
  obtain ⟨b, rfl, _⟩ := DataW.trod_bool hu hx
  exact ⟨b, rfl⟩

/-- A struct that is an argument: its cells. -/
theorem open_agg {H : Type} {encH : TypeId × Value → H} {t : TypeId} {fs : Array Field} (hu : P.underlying t = some (.struct fs)) {W : World} {base : Nat} {v : Value} {d : DataW H} {p : List MemPlace}
    (hval : Value.okWide P W .any base t v) (h : DataW.Trod encH P W 0 (fun _ => true) true t v d p) : ∃ (cs : List Value) (fuel : Nat), v = .agg ⟨cs⟩ ∧ DataW.trod encH P W 0 (fun _ => true) true fuel t cs = some (d, p) := by
  unfold Value.okWide at hval
  rw [hu] at hval
  obtain ⟨cs, rfl, _⟩ := hval
  obtain ⟨fuel, hf⟩ := h
  exact ⟨cs.toList, fuel, rfl, hf⟩
theorem weights_arg {H : Type} {ts : List TypeId} {ds : List (DataW H)} (h : (DataW.weightsEach P ts ds).all (· ≤ reachBytes) = true) {j : Nat} {t : TypeId} {d : DataW H} (ht : ts[j]? = some t) (hd : ds[j]? = some d) : ∀ n ∈ d.weights P t, n ≤ reachBytes := fun n hn => by
  have := List.all_eq_true.1 h n (DataW.weights_mem_each ht hd n hn)
  simpa using this

/-! laid variables -/
/-- What reads as data: the typed value that the data is of. -/
def OpnD (P : Program) (t : TypeId) (α : Type) [Enc α] (dat : α → DataW Unit) : Prop := ∀ {encH : TypeId × Value → Unit} {w : World} {base : Nat} {sp : Nat → Bool} {held : Bool} {fuel : Nat} {cs : List Value} {d : DataW Unit} {p : List MemPlace},
  DataW.trod encH P w base sp held fuel t cs = some (d, p) → ∃ a : α, cs = enc a ∧ d = dat a
def dU8 (x : UInt8) : DataW Unit := .lit (.int .u8 x.toNat)
def dU64 (x : UInt64) : DataW Unit := .lit (.int .u64 x.toNat)
def dArr {α : Type} {n : Nat} (f : α → DataW Unit) (x : Arr α n) : DataW Unit := .agg (x.l.map f)
def dAcc (x : AccR) : DataW Unit := .agg [dU8 x.lo, dU8 x.hi]
theorem opnD_u8 {t} (hu : P.underlying t = some (.int .u8)) : OpnD P t UInt8 dU8 := fun hx => by
  obtain ⟨n, rfl, e, hw⟩ := DataW.trod_int hu hx
  have : 0 ≤ n ∧ n ≤ 255 := by simpa [Lit.wf, IntKind.min, IntKind.max, IntKind.signed, IntKind.bits] using hw
  have e2 : n = ((UInt8.ofNat n.toNat).toNat : Int) := by rw [UInt8.toNat_ofNat_of_lt' (by show n.toNat < 256; omega)]; omega
  refine ⟨UInt8.ofNat n.toNat, ?_, ?_⟩
  · show _ = [Value.int .u8 _]; rw [← e2]
  · unfold dU8; rw [← e2]; exact congrArg (·.1) e
theorem opnD_u64 {t} (hu : P.underlying t = some (.int .u64)) : OpnD P t UInt64 dU64 := fun hx => by
  obtain ⟨n, rfl, e, hw⟩ := DataW.trod_int hu hx
  have : 0 ≤ n ∧ n ≤ 18446744073709551615 := by simpa [Lit.wf, IntKind.min, IntKind.max, IntKind.signed, IntKind.bits] using hw
  have e2 : n = ((UInt64.ofNat n.toNat).toNat : Int) := by rw [UInt64.toNat_ofNat_of_lt' (by show n.toNat < 18446744073709551616; omega)]; omega
  refine ⟨UInt64.ofNat n.toNat, ?_, ?_⟩
  · show _ = [Value.int .u64 _]; rw [← e2]
  · unfold dU64; rw [← e2]; exact congrArg (·.1) e
theorem chunksD {α : Type} [Enc α] {f : α → DataW Unit} : ∀ (n : Nat) (cs : List Value) (xs : List (DataW Unit)), cs.length = n * Enc.n α → xs.length = n → (∀ i (h : i < xs.length), ∃ a : α, (cs.drop (i * Enc.n α)).take (Enc.n α) = enc a ∧ xs[i] = f a) →
    ∃ l : List α, l.length = n ∧ cs = encs l ∧ xs = l.map f
  | 0, cs, xs, hl, hx, _ => ⟨[], rfl, by rw [Nat.zero_mul] at hl; exact List.eq_nil_of_length_eq_zero hl, by simpa using hx⟩
  | n + 1, cs, [], _, hx, _ => by simp at hx
  | n + 1, cs, x :: xs, hl, hx, h => by
    obtain ⟨a, ha, hfa⟩ := h 0 (Nat.succ_pos _)
    obtain ⟨l, h1, h2, h3⟩ := chunksD (α := α) (f := f) n (cs.drop (Enc.n α)) xs (by rw [List.length_drop, hl, Nat.succ_mul]; omega) (by simpa using hx) fun i hi => by
      obtain ⟨b, hb, hfb⟩ := h (i + 1) (by simpa using hi)
      exact ⟨b, by rw [List.drop_drop, ← hb, Nat.succ_mul, Nat.add_comm], by simpa using hfb⟩
    refine ⟨a :: l, by simp [h1], ?_, by simp only [List.map_cons, ← h3]; rw [← hfa]; rfl⟩
    simp only [Nat.zero_mul, List.drop_zero] at ha
    show cs = (a :: l).flatMap enc
    rw [List.flatMap_cons, ← ha]
    show cs = _ ++ encs l
    rw [← h2, List.take_append_drop]
theorem opnD_arr {t e : TypeId} {n : Nat} {α : Type} [Enc α] {f : α → DataW Unit} (hu : P.underlying t = some (.array n e)) (hc : P.cellsOf e = Enc.n α) (hs : P.cellsOf t = n * Enc.n α) (h : OpnD P e α f) : OpnD P t (Arr α n) (dArr f) := by
  intro encH w base sp held fuel cs d p hx
  obtain ⟨xs, m, _, hd, hl, hlen, hf⟩ := DataW.trod_array hu hx
  obtain ⟨l, h1, h2, h3⟩ := chunksD (f := f) n cs (xs.map (·.1)) (by rw [hl, hs]) (by simp [hlen]) fun i hi => by
    have hi' : i < xs.length := by simpa using hi
    have := hf i (by omega)
    rw [List.getElem?_eq_getElem hi', hc] at this
    obtain ⟨a, ha, hb⟩ := h (d := xs[i].1) (p := xs[i].2) this
    exact ⟨a, ha, by simpa using hb⟩
  exact ⟨⟨l, h1⟩, h2, (congrArg (·.1) hd).trans (congrArg DataW.agg h3)⟩
theorem opnD_acc {t e : TypeId} {f0 f1 : Field} (hu : P.underlying t = some (.struct #[f0, f1])) (t0 : f0.type = e) (t1 : f1.type = e) (o0 : f0.offset = 0) (o1 : f1.offset = 1) (he : P.underlying e = some (.int .u8)) (hc : P.cellsOf e = 1) (hs : P.cellsOf t = 2) : OpnD P t AccR dAcc := by
  intro encH w base sp held fuel cs d p hx
  obtain ⟨xs, m, _, hd, hl, hlen, hf⟩ := DataW.trod_struct hu hx
  have hsz : xs.length = 2 := hlen
  have g0 := hf 0 f0 rfl; have g1 := hf 1 f1 rfl
  rw [List.getElem?_eq_getElem (by omega)] at g0 g1
  rw [t0, o0, hc] at g0
  rw [t1, o1, hc] at g1
  obtain ⟨a, ha, hda⟩ := opnD_u8 he (d := xs[0].1) (p := xs[0].2) g0
  obtain ⟨b, hb, hdb⟩ := opnD_u8 he (d := xs[1].1) (p := xs[1].2) g1
  rw [hs] at hl
  refine ⟨⟨a, b⟩, ?_, ?_⟩
  · obtain ⟨x, y, rfl⟩ : ∃ x y, cs = [x, y] := by
      match cs, hl with
      | [x, y], _ => exact ⟨x, y, rfl⟩
    simp at ha hb
    show [x, y] = cat [pt a, pt b]
    show [x, y] = enc a ++ enc b
    rw [← ha, ← hb]; rfl
  · obtain ⟨x, y, rfl⟩ : ∃ x y, xs = [x, y] := by
      match xs, hsz with
      | [x, y], _ => exact ⟨x, y, rfl⟩
    have := congrArg (·.1) hd
    simp only [List.map_cons, List.map_nil] at this
    simp at hda hdb
    rw [this, hda, hdb]; rfl
theorem dU8_inj {a b : UInt8} (h : dU8 a = dU8 b) : a = b := by
  simp only [dU8, DataW.lit.injEq, Lit.int.injEq, true_and] at h
  exact UInt8.toNat_inj.1 (by omega)
theorem dU64_inj {a b : UInt64} (h : dU64 a = dU64 b) : a = b := by
  simp only [dU64, DataW.lit.injEq, Lit.int.injEq, true_and] at h
  exact UInt64.toNat_inj.1 (by omega)
theorem dAcc_inj {a b : AccR} (h : dAcc a = dAcc b) : a = b := by
  cases a; cases b
  simp only [dAcc, DataW.agg.injEq, List.cons.injEq, and_true] at h
  rw [dU8_inj h.1, dU8_inj h.2]
theorem dArr_inj {α : Type} {n : Nat} {f : α → DataW Unit} (hf : ∀ {a b}, f a = f b → a = b) {a b : Arr α n} (h : dArr f a = dArr f b) : a = b := by
  simp only [dArr, DataW.agg.injEq] at h
  exact Arr.ext (List.map_inj_right (fun _ _ => hf) |>.1 h)

/-- A laid variable, as a row that is only read. -/
theorem laid_row {α : Type} [Enc α] {n : Nat} {f : α → DataW Unit} {w : World} {name : String} {d : DataW Unit} {g t : Nat} (x : Arr α n) (hg : P.globalNamed name = some g) (ht : (P.globals[g]?).map (·.type) = some t) (ho : OpnD P t (Arr α n) (dArr f)) (hf : ∀ {a b}, f a = f b → a = b) (hd : d = dArr f x)
    (h : ∃ g t cs fuel p, P.globalNamed name = some g ∧ (P.globals[g]?).map (·.type) = some t ∧ w.var? P name = some cs ∧ DataW.trod (fun _ => ()) P w 0 (fun _ => true) false fuel t cs.toList = some (d, p)) : SegIn w [(g, .view 0 (encs x.l))] := by
  obtain ⟨g', t', cs, fuel, p, h1, h2, h3, h4⟩ := h
  obtain rfl := Option.some.inj (hg.symm.trans h1)
  obtain rfl := Option.some.inj (ht.symm.trans h2)
  obtain ⟨a, e1, e2⟩ := ho h4
  have e3 : a = x := dArr_inj hf (e2.symm.trans hd)
  subst e3
  intro q hq
  rw [List.mem_singleton] at hq; subst hq
  unfold World.var? at h3
  rw [hg] at h3
  simp only [Option.bind_some] at h3
  cases hh : w.heap[g]? with
  | none => rw [hh] at h3; cases h3
  | some o =>
    rw [hh] at h3
    cases o with
    | cells c E fr =>
      simp only [Option.some.injEq] at h3
      subst h3
      refine ⟨_, rfl, _, _, _, rfl, fun i v hv => ?_⟩
      have e4 : c = ⟨encs a.l⟩ := by apply Array.ext'; exact e1
      rw [e4, Nat.zero_add]; simpa using hv
    | _ => cases h3
theorem laid_one {w : World} {name : String} {d : DataW Unit} {l : List (String × DataW Unit)} : ∀ {ps : List MemPlace}, DataW.LaidVars P w l ps → (name, d) ∈ l →
    ∃ g t cs fuel p, P.globalNamed name = some g ∧ (P.globals[g]?).map (·.type) = some t ∧ w.var? P name = some cs ∧ DataW.trod (fun _ => ()) P w 0 (fun _ => true) false fuel t cs.toList = some (d, p) := by
  induction l with
  | nil => intro ps _ h; cases h
  | cons x r ih =>
    intro ps h hm
    obtain ⟨n, d'⟩ := x
    obtain ⟨g, t, cs, fuel, p, q, h1, h2, h3, h4, h5, _⟩ := h
    rcases List.mem_cons.1 hm with e | hm
    · simp only [Prod.mk.injEq] at e; obtain ⟨rfl, rfl⟩ := e
      exact ⟨g, t, cs, fuel, p, h1, h2, h3, h4⟩
    · exact ih h5 hm
end
end Go.PW
