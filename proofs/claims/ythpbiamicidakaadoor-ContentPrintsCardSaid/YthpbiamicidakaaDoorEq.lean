/- The join: rows within rows opened. No condition. -/
import Derived.Test.YthpbiamicidakaaDoorEp
namespace Go.PW
open Enc (enc val)
open Go Go.ChangeShapes Go.WideShapes Go.RowKit Go.Deep

section
variable {H : Type} {encH : TypeId × Value → H} {P : Program}

/-- Cells that read as data of no great size are a typed value's, of which φ holds. -/
def OpnM (P : Program) (t : TypeId) (α : Type) [Enc α] (φ : World → α → Prop) : Prop := ∀ {H : Type} {encH : TypeId × Value → H} {w : World} {base : Nat} {sp : Nat → Bool} {held : Bool} {fuel : Nat} {cs : List Value} {d : DataW H} {pl : List MemPlace},
  DataW.trod encH P w base sp held fuel t cs = some (d, pl) → (∀ n ∈ d.weights P t, n ≤ reachBytes) → ∃ a : α, cs = enc a ∧ φ w a
theorem OpnM.of {t : TypeId} {α : Type} [Enc α] (h : Opn P t α) : OpnM P t α fun _ _ => True := fun hx _ => by
  obtain ⟨a, ha⟩ := h hx
  exact ⟨a, ha, trivial⟩
theorem weights_all {e : TypeId} : ∀ {ds : List (DataW H)} {d : DataW H}, d ∈ ds → ∀ n ∈ d.weights P e, n ∈ DataW.weightsAll P e ds
  | _ :: _, _, hd, n, hn => by
    rw [DataW.weightsAll]
    rcases List.mem_cons.1 hd with rfl | h
    · exact List.mem_append_left _ hn
    · exact List.mem_append_right _ (weights_all h n hn)

theorem rows_exist {α : Type} [Enc α] {W : World} {φ : World → α → Prop} {b off len : Nat} (hel : ∀ i, i < len → ∃ x : α, φ W x ∧ ∀ j, j < Enc.n α → W.cell? ⟨b, off + (i * Enc.n α + j), none⟩ = (enc x)[j]?) :
    ∃ xs : List α, xs.length = len ∧ (∀ x ∈ xs, φ W x) ∧ ∀ i (hi : i < xs.length), ∀ j, j < Enc.n α → W.cell? ⟨b, off + (i * Enc.n α + j), none⟩ = (enc xs[i])[j]? := by
  have key : ∀ k, k ≤ len → ∃ xs : List α, xs.length = k ∧ (∀ x ∈ xs, φ W x) ∧ ∀ i (hi : i < xs.length), ∀ j, j < Enc.n α → W.cell? ⟨b, off + (i * Enc.n α + j), none⟩ = (enc xs[i])[j]? := by
    intro k
    induction k with
    | zero => exact fun _ => ⟨[], rfl, fun _ h => (by cases h), fun i hi => by simp at hi⟩
    | succ k ih =>
      intro hk
      obtain ⟨xs, h1, h0, h2⟩ := ih (by omega)
      obtain ⟨x, hp, hx⟩ := hel k (by omega)
      refine ⟨xs ++ [x], by simp [h1], fun y hy => ?_, fun i hi j hj => ?_⟩
      · rcases List.mem_append.1 hy with h | h
        · exact h0 y h
        · rw [List.mem_singleton] at h; subst h; exact hp
      · by_cases he : i < xs.length
        · rw [List.getElem_append_left he]; exact h2 i he j hj
        · have e : i = k := by simp at hi; omega
          subst e
          rw [List.getElem_append_right (by omega)]
          simpa [h1] using hx j hj
  exact key len (Nat.le_refl _)

/-- A slice within a row, as a typed row that is only read. -/
theorem open_row {t e : TypeId} {α : Type} [Enc α] {φ : World → α → Prop} (hu : P.underlying t = some (.slice e)) (hc : P.cellsOf e = Enc.n α) (hp : 0 < Enc.n α) (ho : OpnM P e α φ)
    {W : World} {base : Nat} {sp : Nat → Bool} {held : Bool} {fuel : Nat} {cs : List Value} {d : DataW H} {pl : List MemPlace} (h : DataW.trod encH P W base sp held fuel t cs = some (d, pl)) (hw : ∀ n ∈ d.weights P t, n ≤ reachBytes) :
    ∃ (s : Vs) (xs : List α), cs = [.slice s.adr xs.length s.cap] ∧ s.ok xs ∧ SegIn W (s.seg xs) ∧ xs.length * P.bytesOf e ≤ reachBytes ∧ ∀ x ∈ xs, φ W x := by
  rcases open_slice hu h with ⟨rfl, hx⟩ | ⟨a, len, cap, m, n, D, Pl, rfl, hb, hl, hm, hmm, hx, hi⟩
  · exact ⟨⟨true, 0, 0, 0, none⟩, [], rfl, ⟨fun _ => rfl, Nat.le_refl _⟩, (fun q hq => by cases hq), by simp, fun x hx => by cases hx⟩
  · have hlm : len ≤ m := by rw [hmm]; split <;> omega
    have hd : d = _ := congrArg (·.1) hx
    have hsz : len * P.bytesOf e ≤ reachBytes := by
      have := hw ((len + (m - len)) * P.bytesOf e) (by
        rw [hd]; unfold DataW.weights; rw [hu]; simp)
      exact Nat.le_trans (Nat.mul_le_mul_right _ (by omega)) this
    by_cases h0 : len = 0
    · subst h0
      exact ⟨⟨true, 0, 0, cap, some a⟩, [], rfl, ⟨fun _ => rfl, Nat.zero_le _⟩, (fun q hq => by cases hq), by simp, fun x hx => by cases hx⟩
    · have hcell : ∀ i, i < len → ∃ x : α, φ W x ∧ ∀ j, j < Enc.n α → W.cell? ((a.add (i * P.cellsOf e)).add j) = (enc x)[j]? := fun i him => by
        obtain ⟨cs', h1, h2⟩ := hi i (by omega)
        obtain ⟨x, rfl, hφ⟩ := ho (d := D i) (pl := Pl i) h2 (fun n hn => hw n (by
          rw [hd]; unfold DataW.weights; rw [hu]
          refine List.mem_cons_of_mem _ (List.mem_append_left _ (weights_all (List.mem_map.2 ⟨i, by simpa using him, rfl⟩) n hn))))
        refine ⟨x, hφ, fun j hj => ?_⟩
        obtain ⟨_, _, h3⟩ := World.cells?_some h1
        exact h3 j (by omega)
      have hspot : a.spot = none := by
        obtain ⟨x, _, hx0⟩ := hcell 0 (by omega)
        have h1 := hx0 0 hp
        rw [List.getElem?_eq_getElem (by rw [Enc.len]; exact hp)] at h1
        cases hs : a.spot with
        | none => rfl
        | some s =>
          exfalso
          have h2 : ((a.add (0 * P.cellsOf e)).add 0).spot = some s := by
            rw [Nat.zero_mul]; unfold Addr.add; simp [hs]
          unfold World.cell? at h1
          split at h1
          · simp only [h2, Option.isSome_some, if_true] at h1; cases h1
          · cases h1
      obtain ⟨b, off, spx⟩ := a
      simp only at hspot; subst hspot
      have hel : ∀ i, i < len → ∃ x : α, φ W x ∧ ∀ j, j < Enc.n α → W.cell? ⟨b, off + (i * Enc.n α + j), none⟩ = (enc x)[j]? := fun i him => by
        obtain ⟨x, hφ, hx⟩ := hcell i him
        refine ⟨x, hφ, fun j hj => ?_⟩
        have h4 := hx j hj
        rw [add_none, add_none, hc] at h4
        rw [← h4, Nat.add_assoc]
      obtain ⟨xs, hlen, hφ, hxs⟩ := rows_exist hel
      subst hlen
      refine ⟨⟨false, b, off, cap, none⟩, xs, rfl, ⟨fun h => by simp at h, hl⟩, ?_, hsz, hφ⟩
      intro q hq
      simp only [Vs.seg, Bool.false_eq_true, if_false, List.mem_singleton] at hq
      subst hq
      have hob : ∃ c E fr, W.heap[b]? = some (.cells c E fr) := by
        have h1 := hxs 0 (by omega) 0 hp
        rw [List.getElem?_eq_getElem (by rw [Enc.len]; exact hp)] at h1
        unfold World.cell? at h1
        split at h1
        · next c E fr hc => exact ⟨_, _, _, hc⟩
        · cases h1
      obtain ⟨c, E, fr, hob⟩ := hob
      refine ⟨_, hob, c, E, fr, rfl, fun i v hv => ?_⟩
      have hil : i < xs.length * Enc.n α := by rw [← encs_length]; exact (List.getElem?_eq_some_iff.1 hv).1
      have hdiv : i / Enc.n α < xs.length := (Nat.div_lt_iff_lt_mul hp).2 hil
      have h5 := hxs (i / Enc.n α) hdiv (i % Enc.n α) (Nat.mod_lt _ hp)
      have h6 : i / Enc.n α * Enc.n α + i % Enc.n α = i := by rw [Nat.mul_comm]; exact Nat.div_add_mod _ _
      rw [h6] at h5
      have h7 : (encs xs)[i]? = (enc xs[i / Enc.n α])[i % Enc.n α]? := by
        have := encs_at (xs := xs) hdiv (j := i % Enc.n α) (Nat.mod_lt _ hp)
        rw [h6] at this; exact this
      rw [h7] at hv
      rw [hv] at h5
      simpa [World.cell?, hob] using h5

/-- The fields of a struct that reads. -/
theorem open_fields {t : TypeId} {fs : Array Field} (hu : P.underlying t = some (.struct fs)) {W : World} {base : Nat} {sp : Nat → Bool} {held : Bool} {fuel : Nat} {cs : List Value} {d : DataW H} {pl : List MemPlace} (h : DataW.trod encH P W base sp held fuel t cs = some (d, pl)) (hw : ∀ n ∈ d.weights P t, n ≤ reachBytes) :
    cs.length = P.cellsOf t ∧ ∃ n, ∀ (i : Nat) (f : Field), fs[i]? = some f → ∃ d' pl', DataW.trod encH P W base sp held n f.type ((cs.drop f.offset).take (P.cellsOf f.type)) = some (d', pl') ∧ ∀ m ∈ d'.weights P f.type, m ≤ reachBytes := by
  obtain ⟨xs, m, _, hx, hl, hlen, hf⟩ := DataW.trod_struct hu h
  refine ⟨hl, m, fun i f hi => ?_⟩
  have hil : i < xs.length := by rw [hlen]; exact (Array.getElem?_eq_some_iff.1 hi).1
  have h1 := hf i f hi
  rw [List.getElem?_eq_getElem hil] at h1
  refine ⟨xs[i].1, xs[i].2, h1, fun k hk => hw k ?_⟩
  have hd : d = .agg (xs.map (·.1)) := congrArg (·.1) hx
  rw [hd]; unfold DataW.weights; rw [hu]
  exact DataW.weights_mem_each (ts := fs.toList.map (·.type)) (ds := xs.map (·.1)) (j := i) (t := f.type) (d := xs[i].1) (by simp [hi]) (by simp [hil]) k hk

/-- A row in pieces. -/
def pieces (cs : List Value) : Nat → List Nat → List (List Value)
  | _, [] => []
  | o, n :: r => (cs.drop o).take n :: pieces cs (o + n) r
theorem glue {cs : List Value} : ∀ (ns : List Nat) (o : Nat), cs.length = o + ns.sum → cs.drop o = (pieces cs o ns).flatten
  | [], o, h => by simp at h; simp [pieces, h]
  | n :: r, o, h => by
    simp only [List.sum_cons] at h
    simp only [pieces, List.flatten_cons]
    rw [← glue r (o + n) (by omega), ← List.drop_drop, List.take_append_drop]
end
end Go.PW
