/- The join: a law's arguments opened to typed rows, and its statement's post from a contract's. No condition. -/
import Derived.Test.YthpbiamicidakaaDoorEk
import Derived.ReadAgain
import Derived.OpenShut
import Derived.SizedLaws
import Derived.Deep.Slices
import Derived.RowKit
namespace Go.PW
open Enc (enc val)
open Go Go.ChangeShapes Go.WideShapes Go.RowKit Go.Deep

theorem Ext.same {w w' : World} (h : Ext [] w w') {p : MemPlace} (hp : p.block < w.heap.size) : w.sameAt w' p := by
  have := h.blk p.block hp (by simp)
  cases p with
  | cell b off => simp only [World.sameAt, World.cell?]; exact congrArg (fun o : Option Obj => match o with | some (.cells c _ _) => if (none : Option Nat).isSome then none else c[off]? | _ => none) this
  | map b => exact this

theorem Ext.kept {w w' : World} (h : Ext [] w w') (may : MemPlace → Prop) : w.keptBut w' may := by
  refine ⟨h.os, h.output, fun i hi => ?_⟩
  rw [h.blk i hi (by simp)]
  exact (World.keptBut_refl w may).2.2 i hi

section
variable {H : Type} {encH : TypeId × Value → H} {P : Program}

theorem trodAll_carry {w w' : World} {base : Nat} {sp : Nat → Bool} {held : Bool} : ∀ {ts : List TypeId} {vs : List Value} {ds : List (DataW H)} {ps : List MemPlace},
    DataW.TrodAll encH P w base sp held ts vs ds ps → (∀ p ∈ ps, w.sameAt w' p) → DataW.TrodAll encH P w' base sp held ts vs ds ps
  | [], [], [], _, h, _ => h
  | _ :: _, _ :: _, _ :: _, _, ⟨p, q, ⟨n, h1⟩, h2, e⟩, hs => ⟨p, q, ⟨n, DataW.trod_carry n _ _ _ h1 fun x hx => hs x (by rw [e]; exact List.mem_append_left _ hx)⟩,
      trodAll_carry h2 (fun x hx => hs x (by rw [e]; exact List.mem_append_right _ hx)), e⟩

/-- What a law's statement asks, of a call that laid only new memory and answered true. -/
theorem law_post {f : Func} {s : ChangeSpec} {apart fresh handsOn : Bool} {W W' : World} {args : Array Value} {ds gs : List (DataW H)} {before : List MemPlace} {tb : TypeId}
    (K : Kids P (· < P.types.size)) (hz : ∀ t e, t < P.types.size → P.underlying t = some (.slice e) → 0 < P.cellsOf e) (hts : ∀ t ∈ f.params.toList, t < P.types.size)
    (hW : DataW.Whole encH P f.params.toList s.vars apart W args.toList ds gs before) (hv : s.vars = []) (hx : Ext [] W W')
    (hf : s.fn H (ds ++ gs) = { results := [.lit (.bool true)], args := ds }) (hr : f.resultTypes = #[tb]) (hb : P.underlying tb = some .bool) :
    s.post encH P f apart fresh handsOn false W args (.bool true) W' := by
  have hlt := hW.lt
  have hW' := hW
  obtain ⟨p, q, hA, hV, rfl, hfz, hnd⟩ := hW
  rw [hv] at hV
  obtain ⟨rfl, rfl⟩ := trodVars_none hV
  have hsame : ∀ x ∈ p, W.sameAt W' x := fun x hx' => hx.same (hlt x (List.mem_append_left _ hx'))
  refine ⟨ds, [], p ++ [], [], p, [], hW', ?_, ?_, ?_, hx.kept _, fun h => by cases h⟩
  · rw [hf, hr]; exact trodAll_mk1 (shut_bool hb true)
  · rw [hf]; exact trodAll_carry (DataW.TrodAll.respare K hz hts hA fun x hx' => by simpa using hlt x (List.mem_append_left _ hx')) hsame
  · rw [hf, hv]; rfl

/-! ### opening -/
def Opn (P : Program) (t : TypeId) (α : Type) [Enc α] : Prop := ∀ {H : Type} {encH : TypeId × Value → H} {w : World} {base : Nat} {sp : Nat → Bool} {held : Bool} {fuel : Nat} {cs : List Value} {x : DataW H × List MemPlace},
  DataW.trod encH P w base sp held fuel t cs = some x → ∃ a : α, cs = enc a

theorem opn_int {t : TypeId} {k : IntKind} {α : Type} [Enc α] (hu : P.underlying t = some (.int k)) (h : ∀ n : Int, (Lit.int k n).wf = true → ∃ a : α, [Value.int k n] = enc a) : Opn P t α := by
  intro H encH w base sp held fuel cs x hx
  cases fuel with
  | zero => simp [DataW.trod] at hx
  | succ m =>
    unfold DataW.trod at hx
    rw [hu] at hx
    split at hx <;> simp_all
theorem opn_u8 {t : TypeId} (hu : P.underlying t = some (.int .u8)) : Opn P t UInt8 := opn_int hu fun n hw => by
  have : 0 ≤ n ∧ n ≤ 255 := by simpa [Lit.wf, IntKind.min, IntKind.max, IntKind.signed, IntKind.bits] using hw
  refine ⟨UInt8.ofNat n.toNat, ?_⟩
  show [Value.int .u8 n] = [Value.int .u8 ((UInt8.ofNat n.toNat).toNat : Nat)]
  rw [UInt8.toNat_ofNat_of_lt' (by show n.toNat < 256; omega)]
  rw [Int.toNat_of_nonneg this.1]
theorem opn_u32 {t : TypeId} (hu : P.underlying t = some (.int .u32)) : Opn P t UInt32 := opn_int hu fun n hw => by
  have : 0 ≤ n ∧ n ≤ 4294967295 := by simpa [Lit.wf, IntKind.min, IntKind.max, IntKind.signed, IntKind.bits] using hw
  refine ⟨UInt32.ofNat n.toNat, ?_⟩
  show [Value.int .u32 n] = [Value.int .u32 ((UInt32.ofNat n.toNat).toNat : Nat)]
  rw [UInt32.toNat_ofNat_of_lt' (by show n.toNat < 4294967296; omega)]
  rw [Int.toNat_of_nonneg this.1]
theorem opn_i64 {t : TypeId} (hu : P.underlying t = some (.int .i64)) : Opn P t Int := opn_int hu fun n _ => ⟨n, rfl⟩

theorem encs_at {α : Type} [Enc α] {xs : List α} {i j : Nat} (hi : i < xs.length) (hj : j < Enc.n α) : (encs xs)[i * Enc.n α + j]? = (enc xs[i])[j]? := by
  rw [encs_split xs i hi]
  have h1 : (encs (xs.take i)).length = i * Enc.n α := by rw [encs_length, List.length_take]; rw [Nat.min_eq_left (by omega)]
  rw [List.getElem?_append_right (by omega), h1, Nat.add_sub_cancel_left, List.getElem?_append_left (by rw [Enc.len]; exact hj)]
theorem chunks {α : Type} [Enc α] : ∀ (n : Nat) (cs : List Value), cs.length = n * Enc.n α → (∀ i, i < n → ∃ a : α, (cs.drop (i * Enc.n α)).take (Enc.n α) = enc a) → ∃ l : List α, l.length = n ∧ cs = encs l
  | 0, cs, hl, _ => ⟨[], rfl, by rw [Nat.zero_mul] at hl; exact List.eq_nil_of_length_eq_zero hl⟩
  | n + 1, cs, hl, h => by
    obtain ⟨a, ha⟩ := h 0 (Nat.succ_pos _)
    obtain ⟨l, h1, h2⟩ := chunks (α := α) n (cs.drop (Enc.n α)) (by rw [List.length_drop, hl, Nat.succ_mul]; omega) fun i hi => by
      obtain ⟨b, hb⟩ := h (i + 1) (Nat.succ_lt_succ hi)
      exact ⟨b, by rw [List.drop_drop, ← hb, Nat.succ_mul, Nat.add_comm]⟩
    refine ⟨a :: l, by simp [h1], ?_⟩
    simp only [Nat.zero_mul, List.drop_zero] at ha
    show cs = (a :: l).flatMap enc
    rw [List.flatMap_cons, ← ha]
    show cs = _ ++ encs l
    rw [← h2, List.take_append_drop]

theorem opn_arr {t e : TypeId} {n : Nat} {α : Type} [Enc α] (hu : P.underlying t = some (.array n e)) (hc : P.cellsOf e = Enc.n α) (hs : P.cellsOf t = n * Enc.n α) (h : Opn P e α) : Opn P t (Arr α n) := by
  intro H encH w base sp held fuel cs x hx
  obtain ⟨xs, m, _, _, hl, hlen, hf⟩ := DataW.trod_array hu hx
  obtain ⟨l, h1, h2⟩ := chunks n cs (by rw [hl, hs]) fun i hi => by
    have := hf i hi
    rw [List.getElem?_eq_getElem (by omega), hc] at this
    exact h this
  exact ⟨⟨l, h1⟩, h2⟩

theorem opn3 {t : TypeId} {f0 f1 f2 : Field} {α β γ δ : Type} [Enc α] [Enc β] [Enc γ] [Enc δ] (hu : P.underlying t = some (.struct #[f0, f1, f2])) (o0 : f0.offset = 0) (o1 : f1.offset = Enc.n α) (o2 : f2.offset = Enc.n α + Enc.n β)
    (c0 : P.cellsOf f0.type = Enc.n α) (c1 : P.cellsOf f1.type = Enc.n β) (c2 : P.cellsOf f2.type = Enc.n γ) (hs : P.cellsOf t = Enc.n α + Enc.n β + Enc.n γ) (h0 : Opn P f0.type α) (h1 : Opn P f1.type β) (h2 : Opn P f2.type γ)
    (mk : α → β → γ → δ) (he : ∀ a b c, enc (mk a b c) = enc a ++ (enc b ++ enc c)) : Opn P t δ := by
  intro H encH w base sp held fuel cs x hx
  obtain ⟨xs, m, _, _, hl, hlen, hf⟩ := DataW.trod_struct hu hx
  have hsz : xs.length = 3 := hlen
  have g0 := hf 0 f0 rfl; have g1 := hf 1 f1 rfl; have g2 := hf 2 f2 rfl
  rw [List.getElem?_eq_getElem (by omega)] at g0 g1 g2
  obtain ⟨a, ha⟩ := h0 g0; obtain ⟨b, hb⟩ := h1 g1; obtain ⟨c, hc⟩ := h2 g2
  refine ⟨mk a b c, ?_⟩
  rw [he, ← ha, ← hb, ← hc, o0, o1, o2, c0, c1, c2, List.drop_zero]
  rw [List.take_of_length_le (l := cs.drop (Enc.n α + Enc.n β)) (by rw [List.length_drop]; omega), ← List.drop_drop, List.take_append_drop, List.take_append_drop]

/-- A slice that is an argument, as a typed row that is only read. -/
theorem open_vs {t e : TypeId} {α : Type} [Enc α] (hu : P.underlying t = some (.slice e)) (hc : P.cellsOf e = Enc.n α) (hp : 0 < Enc.n α) (ho : Opn P e α) {W : World} {base : Nat} {v : Value} {d : DataW H} {p : List MemPlace}
    (hval : Value.okWide P W .any base t v) (h : DataW.Trod encH P W 0 (fun _ => true) true t v d p) :
    ∃ (s : Vs) (xs : List α), s.ok xs ∧ v = s.v xs.length ∧ SegIn W (s.seg xs) ∧ (d = .nil ∧ xs = [] ∨ ∃ el sp, d = .slice el sp ∧ el.length = xs.length) := by
  obtain ⟨fuel, hf⟩ := h
  have hone : v.cells.toList = [v] := by
    simp only [Value.okWide, hu, Cell.okWide, Cell.ok] at hval
    cases v <;> simp_all [Value.cells]
  rw [hone] at hf
  rcases open_slice hu hf with ⟨hcs, hx⟩ | ⟨a, len, cap, m, n, D, Pl, hcs, hb, hl, hm, hmm, hx, hi⟩
  · simp only [List.cons.injEq, and_true] at hcs; subst hcs
    refine ⟨⟨true, 0, 0, 0, none⟩, [], ⟨fun _ => rfl, Nat.le_refl _⟩, rfl, (fun q hq => by cases hq), .inl ⟨congrArg (·.1) hx, rfl⟩⟩
  · simp only [List.cons.injEq, and_true] at hcs; subst hcs
    simp only [if_true] at hmm; subst hmm
    simp only [Value.okWide, hu, Cell.okWide, Cell.ok, World.has] at hval
    obtain ⟨_, _, _, hspot, row, cells, hshape, _⟩ := hval
    obtain ⟨b, off, sp⟩ := a
    simp only at hspot; subst hspot
    have hel : ∀ i, i < len → ∃ x : α, ∀ j, j < Enc.n α → W.cell? ⟨b, off + (i * Enc.n α + j), none⟩ = (enc x)[j]? := fun i him => by
      obtain ⟨cs', h1, h2⟩ := hi i (by omega)
      obtain ⟨x, rfl⟩ := ho h2
      refine ⟨x, fun j hj => ?_⟩
      obtain ⟨_, _, h3⟩ := World.cells?_some h1
      have h4 := h3 j (by omega)
      rw [add_add, hc] at h4
      rw [← h4]
      unfold Addr.add
      split
      · next h0 => rw [h0]; rfl
      · rfl
    have hex : ∃ xs : List α, xs.length = len ∧ ∀ i (hi : i < xs.length), ∀ j, j < Enc.n α → W.cell? ⟨b, off + (i * Enc.n α + j), none⟩ = (enc xs[i])[j]? := by
      have key : ∀ k, k ≤ len → ∃ xs : List α, xs.length = k ∧ ∀ i (hi : i < xs.length), ∀ j, j < Enc.n α → W.cell? ⟨b, off + (i * Enc.n α + j), none⟩ = (enc xs[i])[j]? := by
        intro k
        induction k with
        | zero => exact fun _ => ⟨[], rfl, fun i hi => by simp at hi⟩
        | succ k ih =>
          intro hk
          obtain ⟨xs, h1, h2⟩ := ih (by omega)
          obtain ⟨x, hx⟩ := hel k (by omega)
          refine ⟨xs ++ [x], by simp [h1], fun i hi j hj => ?_⟩
          by_cases he : i < xs.length
          · rw [List.getElem_append_left he]; exact h2 i he j hj
          · have e : i = k := by simp at hi; omega
            subst e
            rw [List.getElem_append_right (by omega)]
            simpa [h1] using hx j hj
      exact key len (Nat.le_refl _)
    obtain ⟨xs, hlen, hxs⟩ := hex
    subst hlen
    refine ⟨⟨false, b, off, m, none⟩, xs, ⟨fun h => by simp at h, hl⟩, rfl, ?_, .inr ⟨_, _, congrArg (·.1) hx, by simp⟩⟩
    intro q hq
    simp only [Vs.seg, Bool.false_eq_true, if_false, List.mem_singleton] at hq
    subst hq
    unfold World.shape? at hshape
    split at hshape
    · next c E fr hob =>
      refine ⟨_, hob, c, E, fr, rfl, fun i v hv => ?_⟩
      have hil : i < xs.length * Enc.n α := by rw [← encs_length]; exact (List.getElem?_eq_some_iff.1 hv).1
      have hdiv : i / Enc.n α < xs.length := (Nat.div_lt_iff_lt_mul hp).2 hil
      have h5 := hxs (i / Enc.n α) hdiv (i % Enc.n α) (Nat.mod_lt _ hp)
      have h6 : i / Enc.n α * Enc.n α + i % Enc.n α = i := by rw [Nat.mul_comm]; exact Nat.div_add_mod _ _
      rw [h6] at h5
      have h7 : (encs xs)[i]? = (enc xs[i / Enc.n α])[i % Enc.n α]? := by
        have := encs_at (xs := xs) hdiv (j := i % Enc.n α) (Nat.mod_lt _ hp)
        rw [h6] at this; exact this
      rw [h7] at hv
      rw [hv] at h5
      simpa [World.cell?, hob] using h5
    · cases hshape
end
end Go.PW
