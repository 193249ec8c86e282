/- The engine: what a block holds, in parts; the rules of the operations that only compute, load, make or store. No condition. -/
import Derived.Test.YthpbiamicidakaaDoorEb
namespace Go.PW
open Go

/-! ### parts -/
structure Pt where
  n : Nat
  c : List Value
  v : Value
  ag : Bool
  len : c.length = n
  hv : (ag = true ∧ v = .agg ⟨c⟩) ∨ (ag = false ∧ c = [v])
  one : ∀ u ∈ c, u.oneCell' = true

class Enc (α : Type) where
  n : Nat
  enc : α → List Value
  val : α → Value
  ag : Bool
  len : ∀ x, (enc x).length = n
  hv : ∀ x, (ag = true ∧ val x = .agg ⟨enc x⟩) ∨ (ag = false ∧ enc x = [val x])
  one : ∀ x, ∀ u ∈ enc x, u.oneCell' = true

open Enc (enc val)

def pt {α : Type} [Enc α] (x : α) : Pt := ⟨Enc.n α, enc x, val x, Enc.ag α, Enc.len x, Enc.hv x, Enc.one x⟩
/-- A value of one cell. -/
def p1 (v : Value) (h : v.oneCell' = true := by rfl) : Pt := ⟨1, [v], v, false, rfl, .inr ⟨rfl, rfl⟩, by simpa using h⟩

def cat : List Pt → List Value
  | [] => []
  | [p] => p.c
  | p :: q :: r => p.c ++ cat (q :: r)

theorem cat_cons (p : Pt) (r : List Pt) : cat (p :: r) = p.c ++ cat r := by cases r <;> simp [cat]

def psum : List Pt → Nat → Nat
  | _, 0 => 0
  | [], _ => 0
  | p :: r, i + 1 => p.n + psum r i

theorem cat_split {ps : List Pt} {i : Nat} {p : Pt} (h : ps[i]? = some p) :
    ∃ pre post, cat ps = pre ++ (p.c ++ post) ∧ pre.length = psum ps i ∧ ∀ p' : Pt, cat (ps.set i p') = pre ++ (p'.c ++ post) := by
  induction ps generalizing i with
  | nil => simp at h
  | cons q r ih =>
    cases i with
    | zero =>
      simp only [List.getElem?_cons_zero, Option.some.injEq] at h; subst h
      exact ⟨[], cat r, by simp [cat_cons], rfl, fun p' => by simp [cat_cons]⟩
    | succ i =>
      obtain ⟨pre, post, h1, h2, h3⟩ := ih (by simpa using h)
      exact ⟨q.c ++ pre, post, by simp [cat_cons, h1], by simp [psum, h2, q.len], fun p' => by simp [cat_cons, h3]⟩

theorem cat_length (ps : List Pt) : (cat ps).length = psum ps ps.length := by
  induction ps with
  | nil => rfl
  | cons p r ih => simp [cat_cons, psum, p.len, ih]

theorem cat_one (ps : List Pt) : ∀ u ∈ cat ps, u.oneCell' = true := by
  induction ps with
  | nil => simp [cat]
  | cons p r ih =>
    rw [cat_cons]; intro u hu
    rcases List.mem_append.1 hu with h | h
    · exact p.one u h
    · exact ih u h

/-- The parts as one aggregate. -/
def pa (ps : List Pt) : Pt := ⟨psum ps ps.length, cat ps, .agg ⟨cat ps⟩, true, cat_length ps, .inl ⟨rfl, rfl⟩, cat_one ps⟩

def encs {α : Type} [Enc α] (xs : List α) : List Value := xs.flatMap enc

theorem encs_length {α : Type} [Enc α] (xs : List α) : (encs xs).length = xs.length * Enc.n α := by
  induction xs with
  | nil => simp [encs]
  | cons x r ih => simp only [encs, List.flatMap_cons, List.length_append, Enc.len, List.length_cons] at *; rw [ih, Nat.add_mul]; omega

theorem encs_append {α : Type} [Enc α] (xs ys : List α) : encs (xs ++ ys) = encs xs ++ encs ys := by simp [encs]
theorem encs_one {α : Type} [Enc α] (xs : List α) : ∀ u ∈ encs xs, u.oneCell' = true := by
  intro u hu; obtain ⟨x, _, hx⟩ := List.mem_flatMap.1 hu; exact Enc.one x u hx

theorem encs_split {α : Type} [Enc α] (xs : List α) (k : Nat) (h : k < xs.length) : encs xs = encs (xs.take k) ++ (enc xs[k] ++ encs (xs.drop (k + 1))) := by
  have e : xs = xs.take k ++ xs[k] :: xs.drop (k + 1) := by rw [List.getElem_cons_drop, List.take_append_drop]
  have h2 := congrArg encs e
  rw [encs_append] at h2
  exact h2

/-! ### types -/
def isAggD : TypeDesc → Bool
  | .struct _ | .array _ _ => true
  | _ => false
def Sz (P : Program) (t n : Nat) : Prop := (P.info? t).map (·.size) = some n
def TA (P : Program) (t : Nat) (b : Bool) : Prop := (P.underlying t).map isAggD = some b
structure Ty (P : Program) (t n : Nat) (ag : Bool) : Prop where
  sz : (P.info? t).map (·.size) = some n
  ag : (P.underlying t).map isAggD = some ag
def Zt (P : Program) (t : Nat) (v : Value) : Prop := (P.info? t).bind (·.zero) = some v
def Bt (P : Program) (t n : Nat) : Prop := (P.info? t).map (·.bytes) = some n

section
variable {P : Program} {w : World}

theorem run_sizeOf' {t n : Nat} (h : (P.info? t).map (·.size) = some n) : (sizeOf t).run P w = .ok n w := by
  cases hq : P.info? t with
  | none => simp [hq] at h
  | some i => simp [hq] at h; simp [sizeOf, typeInfo, hq, h]
theorem run_isAgg' {t b} (h : (P.underlying t).map isAggD = some b) : (isAgg t).run P w = .ok b w := by
  cases hq : P.underlying t with
  | none => simp [hq] at h
  | some d =>
    simp [hq] at h
    unfold isAgg
    rw [Sem.run_bind, run_underlying hq w]
    cases d <;> simp_all [isAggD]
theorem run_zero' {t v} (h : Zt P t v) : (zeroValue t).run P w = .ok v w := by
  unfold Zt at h
  cases hq : P.info? t with
  | none => simp [hq] at h
  | some i => simp [hq] at h; simp [zeroValue, typeInfo, hq, h]

def cellsAt (w : World) (b o : Nat) (l : List Value) : Prop := ∀ i v, l[i]? = some v → w.cell? ⟨b, o + i, none⟩ = some v

theorem add_none (b o n : Nat) : (⟨b, o, none⟩ : Addr).add n = ⟨b, o + n, none⟩ := by
  unfold Addr.add; split <;> simp_all

theorem run_load_agg {t b o : Nat} {c : List Value} (ht : Ty P t c.length true) (h : cellsAt w b o c) : (loadVar t ⟨b, o, none⟩).run P w = .ok (.agg ⟨c⟩) w := by
  have hl : (loadCells ⟨b, o, none⟩ c.length).run P w = .ok c.toArray w :=
    run_loadCells_list (P := P) w ⟨b, o, none⟩ c (fun j v hv => by rw [add_none]; exact h j v hv)
  simp [loadVar, Sem.run_bind, run_isAgg' ht.ag, run_sizeOf' ht.sz, hl]

theorem run_load_one {t b o : Nat} {v : Value} {n} (ht : Ty P t n false) (h : cellsAt w b o [v]) : (loadVar t ⟨b, o, none⟩).run P w = .ok v w := by
  have h0 : w.cell? ⟨b, o, none⟩ = some v := h 0 v rfl
  simp only [loadVar, Sem.run_bind, run_isAgg' ht.ag, Result.andThen_ok]
  show (load ⟨b, o, none⟩).run P w = _
  simp [load, Sem.run, h0]

theorem run_load_pt {t b o : Nat} {p : Pt} (ht : Ty P t p.n p.ag) (h : cellsAt w b o p.c) : (loadVar t ⟨b, o, none⟩).run P w = .ok p.v w := by
  obtain ⟨n, c, v, ag, len, hv, one⟩ := p
  subst len
  rcases hv with ⟨rfl, rfl⟩ | ⟨rfl, rfl⟩
  · exact run_load_agg ht h
  · exact run_load_one ht h

theorem cellsAt_cells {b o E : Nat} {c l pre post : List Value} {s : Seg} (hs : SegIn w s) (hm : (b, Ck.cells c E) ∈ s) (hc : c = pre ++ (l ++ post)) (ho : pre.length = o) : cellsAt w b o l := by
  obtain ⟨x, hx, fr, rfl, _⟩ := hs _ hm
  intro i v hv
  have hi : i < l.length := (List.getElem?_eq_some_iff.1 hv).1
  simp only [World.cell?, hx, Option.isSome_none, Bool.false_eq_true, if_false]
  subst hc; subst ho
  simp only [List.getElem?_toArray, List.getElem?_append_right (Nat.le_add_right _ _), Nat.add_sub_cancel_left, List.getElem?_append_left hi, hv]

theorem cellsAt_view {b o off : Nat} {c l pre post : List Value} {s : Seg} (hs : SegIn w s) (hm : (b, Ck.view off c) ∈ s) (hc : c = pre ++ (l ++ post)) (ho : off + pre.length = o) : cellsAt w b o l := by
  obtain ⟨x, hx, c', E, fr, rfl, hv'⟩ := hs _ hm
  intro i v hv
  have hi : i < l.length := (List.getElem?_eq_some_iff.1 hv).1
  simp only [World.cell?, hx, Option.isSome_none, Bool.false_eq_true, if_false]
  subst hc; subst ho
  have := hv' (pre.length + i) v (by simp only [List.getElem?_append_right (Nat.le_add_right _ _), Nat.add_sub_cancel_left, List.getElem?_append_left hi, hv])
  rw [Nat.add_assoc]; exact this

/-- Stores into a block. -/
theorem run_stores {b E : Nat} {fr : Nat × Nat} : ∀ (vs : List Value) (i o : Nat) (c : List Value) (w : World), w.heap[b]? = some (.cells ⟨c⟩ E fr) → (c.length ≤ fr.1 ∨ fr.2 ≤ fr.1) → o + i + vs.length ≤ c.length →
    (∀ v ∈ vs, v.oneCell' = true) → ∃ w', (storeCells ⟨b, o, none⟩ vs i).run P w = .ok () w' ∧ w'.heap[b]? = some (.cells ⟨c.take (o + i) ++ (vs ++ c.drop (o + i + vs.length))⟩ E fr) ∧
      (∀ k, k ≠ b → w'.heap[k]? = w.heap[k]?) ∧ w'.heap.size = w.heap.size ∧ w'.os = w.os ∧ w'.tape = w.tape ∧ w'.output = w.output
  | [], i, o, c, w, hg, _, _, _ => ⟨w, rfl, by simpa using hg, fun _ _ => rfl, rfl, rfl, rfl, rfl⟩
  | v :: vs, i, o, c, w, hg, hf, hl, h1 => by
    simp only [List.length_cons] at hl
    have hcell : w.cell? ⟨b, o + i, none⟩ = some (c[o + i]'(by omega)) := by
      simp only [World.cell?, hg, Option.isSome_none, Bool.false_eq_true, if_false, List.getElem?_toArray]
      exact List.getElem?_eq_getElem (by omega)
    have hfz : w.frozen? ⟨b, o + i, none⟩ = false := by
      simp only [World.frozen?, hg, Bool.and_eq_false_iff, decide_eq_false_iff_not]
      omega
    have hv1 : v.oneCell' = true := h1 v (by simp)
    have hst : (store ((⟨b, o, none⟩ : Addr).add i) v).run P w = .ok () (w.setCell ⟨b, o + i, none⟩ v) := by
      rw [add_none]
      cases v <;> simp_all [store, Sem.run, Value.oneCell']
    have hheap : (w.setCell ⟨b, o + i, none⟩ v).heap[b]? = some (.cells ⟨c.set (o + i) v⟩ E fr) := by
      simp only [World.setCell, Array.getElem?_modify, if_true, hg, Option.map_some, Option.isSome_none, Bool.false_eq_true, if_false]
      congr 2
      simp
    obtain ⟨w', hr, hh, hold, hsz, hos, htp, hout⟩ := run_stores vs (i + 1) o (c.set (o + i) v) (w.setCell ⟨b, o + i, none⟩ v) hheap (by simpa using hf) (by simp; omega) (fun u hu => h1 u (by simp [hu]))
    refine ⟨w', ?_, ?_, ?_, ?_, hos, htp, hout⟩
    · simp only [storeCells, Sem.run_bind, hst, Result.andThen_ok]; exact hr
    · rw [hh]
      congr 2
      have e1 : (c.set (o + i) v).take (o + (i + 1)) = c.take (o + i) ++ [v] := by
        rw [show o + (i + 1) = (o + i) + 1 by omega, List.take_succ_eq_append_getElem (by simp; omega)]
        simp [List.take_set_of_le]
      have e2 : (c.set (o + i) v).drop (o + (i + 1) + vs.length) = c.drop (o + i + (vs.length + 1)) := by
        rw [List.drop_set_of_lt (by omega)]
        congr 1; omega
      rw [e1, e2]
      simp
    · intro k hk
      rw [hold k hk]
      simp only [World.setCell, Array.getElem?_modify, if_neg (Ne.symm hk)]
    · rw [hsz]; simp

theorem run_store_pt {t b o E : Nat} {p : Pt} {c pre old post : List Value} (ht : Ty P t p.n p.ag) (hin : ∃ x, w.heap[b]? = some x ∧ (Ck.cells c E).ok x) (hc : c = pre ++ (old ++ post)) (hol : old.length = p.n) (ho : pre.length = o) :
    ∃ w' x', (storeVar t ⟨b, o, none⟩ p.v).run P w = .ok () w' ∧ w'.heap[b]? = some x' ∧ (Ck.cells (pre ++ (p.c ++ post)) E).ok x' ∧
      (∀ k, k ≠ b → w'.heap[k]? = w.heap[k]?) ∧ w'.heap.size = w.heap.size ∧ w'.os = w.os ∧ w'.tape = w.tape ∧ w'.output = w.output := by
  obtain ⟨x, hx, fr, rfl, hfr⟩ := hin
  obtain ⟨n, pc, v, ag, len, hv, one⟩ := p
  have hcells : v.cells = ⟨pc⟩ := by
    rcases hv with ⟨_, rfl⟩ | ⟨_, h2⟩
    · rfl
    · subst h2
      have h1 := one v (by simp)
      cases v <;> simp_all [Value.cells, Value.oneCell']
  obtain ⟨w', hr, hh, hold, hsz, hos, htp, hout⟩ := run_stores (P := P) pc 0 o c w hx hfr (by subst hc; subst ho; simp at *; omega) one
  refine ⟨w', _, ?_, hh, ⟨fr, ?_, ?_⟩, hold, hsz, hos, htp, hout⟩
  · simp only [storeVar, Sem.run_bind, run_sizeOf' ht.sz, Result.andThen_ok, hcells]
    rw [if_neg (by simp [len])]
    exact hr
  · congr 2
    subst hc; subst ho
    simp at hol len
    simp [List.take_append, List.drop_append, hol, len, List.drop_eq_nil_of_le]
  · simp at hol len
    subst hc
    simp at hfr ⊢
    omega
end
end Go.PW
