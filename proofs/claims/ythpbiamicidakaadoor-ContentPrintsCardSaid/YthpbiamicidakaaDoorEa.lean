/- The engine: a symbolic heap of whole blocks over the walk's rules. No condition. -/
import Derived.WalkKit
import Derived.KernelRfl
import Derived.OrdersHeld
import Derived.Deep.RegionHeld
namespace Go.PW
open Go

/-! ### temporaries -/
def look (base : Nat → Value) : List (Nat × Value) → Nat → Value
  | [], t => base t
  | (d, v) :: r, t => bif Nat.beq d t then v else look base r t

def A (n : Nat) (base : Nat → Value) (L : List (Nat × Value)) : Act := ⟨Array.ofFn (n := n) fun i => look base L i.val, []⟩

def ev (n : Nat) (base : Nat → Value) (L : List (Nat × Value)) : Operand → Value
  | .tmp t => bif Nat.blt t n then look base L t else undef
  | .const v => v
  | .global g => .pointer (some ⟨g, 0, none⟩)
  | .func f => .func (.func f) #[] #[]

theorem A_eval (n base L) (x : Operand) : (A n base L).eval x = ev n base L x := by
  cases x with
  | tmp t =>
    simp only [Act.eval, A, ev]
    rw [Array.getD_eq_getD_getElem?]
    by_cases h : t < n
    · have : Nat.blt t n = true := Nat.ble_eq.mpr h
      simp [h, this]
    · have : Nat.blt t n = false := by
        cases hb : Nat.blt t n with
        | false => rfl
        | true => exact absurd (Nat.ble_eq.mp hb) h
      simp [h, this]
  | _ => rfl

theorem A_eval_fun (n base L) : (A n base L).eval = ev n base L := funext (A_eval n base L)

theorem A_ext {n base L base' L'} (h : ∀ t, t < n → look base L t = look base' L' t) : A n base L = A n base' L' := by
  unfold A; congr 1
  exact congrArg Array.ofFn (funext fun i => h i.val i.isLt)

theorem A_put (n base L) (d : Nat) (v : Value) : (A n base L).put (some d) v = A n base ((d, v) :: L) := by
  simp only [Act.put, A]
  congr 1
  apply Array.ext
  · simp
  · intro i h1 h2
    simp only [Array.getElem_ofFn, look]
    by_cases e : d = i
    · subst e; simp
    · have : Nat.beq d i = false := by
        cases hb : Nat.beq d i with
        | false => rfl
        | true => exact absurd (Nat.eq_of_beq_eq_true hb) e
      rw [this, Array.getElem_setIfInBounds_ne (by simpa using h2) e]; simp

theorem A_put_none (n base L) (v : Value) : (A n base L).put none v = A n base L := rfl

theorem A_same {n base L d v} (h : look base L d = v) : A n base ((d, v) :: L) = A n base L :=
  A_ext fun t _ => by
    simp only [look]
    cases hb : Nat.beq d t with
    | false => rfl
    | true => have := Nat.eq_of_beq_eq_true hb; subst this; simp [h]

theorem A_defers (n base L) : (A n base L).defers = [] := rfl

/-! ### the heap -/
inductive Ck where
  | cells (c : List Value) (E : Nat)
  | view (off : Nat) (l : List Value)
  | pred (φ : Obj → Prop)

def isCells : Obj → Bool
  | .cells .. => true
  | _ => false

def Ck.ok : Ck → Obj → Prop
  | .cells c E, o => ∃ fr : Nat × Nat, o = .cells ⟨c⟩ E fr ∧ (c.length ≤ fr.1 ∨ fr.2 ≤ fr.1)
  | .view off l, o => ∃ c E fr, o = .cells c E fr ∧ ∀ i v, l[i]? = some v → c[off + i]? = some v
  | .pred φ, o => φ o ∧ isCells o = false

abbrev Seg := List (Nat × Ck)

def SegIn (w : World) (s : Seg) : Prop := ∀ p ∈ s, ∃ o, w.heap[p.1]? = some o ∧ p.2.ok o

def blks (l : List Seg) : List Nat := l.flatten.map (·.1)

theorem mem_blks {l : List Seg} {b : Nat} : b ∈ blks l ↔ ∃ s ∈ l, ∃ p ∈ s, p.1 = b := by
  simp only [blks, List.mem_map, List.mem_flatten]
  constructor
  · rintro ⟨p, ⟨s, hs, hp⟩, rfl⟩; exact ⟨s, hs, p, hp, rfl⟩
  · rintro ⟨s, hs, p, hp, rfl⟩; exact ⟨p, ⟨s, hs, hp⟩, rfl⟩

structure Has (w : World) (own ro : List Seg) : Prop where
  o : ∀ s ∈ own, SegIn w s
  r : ∀ s ∈ ro, SegIn w s
  nd : (blks own).Nodup
  dj : ∀ b, b ∈ blks own → b ∈ blks ro → False

structure Ext (M : List Nat) (w w' : World) : Prop where
  os : w'.os = w.os
  tape : w'.tape = w.tape
  output : w'.output = w.output
  size : w.heap.size ≤ w'.heap.size
  blk : ∀ b, b < w.heap.size → b ∉ M → w'.heap[b]? = w.heap[b]?

theorem Ext.refl (M w) : Ext M w w := ⟨rfl, rfl, rfl, Nat.le_refl _, fun _ _ _ => rfl⟩

/-- The world at the begin, the blocks that are its own there, how many segments are only read there. -/
structure Zt0 where
  w0 : World
  M0 : List Nat
  N0 : Nat

structure In (z : Zt0) (own ro : List Seg) (w : World) : Prop where
  has : Has w own ro
  ext : Ext z.M0 z.w0 w
  fr : ∀ b ∈ blks own, b ∈ z.M0 ∨ z.w0.heap.size ≤ b
  rf : ∀ b ∈ blks (ro.drop z.N0), b ∈ z.M0 ∨ z.w0.heap.size ≤ b

theorem SegIn.lt {w s p} (h : SegIn w s) (hp : p ∈ s) : p.1 < w.heap.size := by
  obtain ⟨o, ho, _⟩ := h p hp
  exact (Array.getElem?_eq_some_iff.1 ho).1

theorem Has.lt {w own ro} (h : Has w own ro) {b} (hb : b ∈ blks own ∨ b ∈ blks ro) : b < w.heap.size := by
  rcases hb with hb | hb
  · obtain ⟨s, hs, p, hp, rfl⟩ := mem_blks.1 hb; exact (h.o s hs).lt hp
  · obtain ⟨s, hs, p, hp, rfl⟩ := mem_blks.1 hb; exact (h.r s hs).lt hp

theorem SegIn.keep {w w' : World} {s : Seg} (h : SegIn w s) (hk : ∀ p ∈ s, w'.heap[p.1]? = w.heap[p.1]?) : SegIn w' s := fun p hp => by
  obtain ⟨o, ho, hok⟩ := h p hp
  exact ⟨o, (hk p hp).trans ho, hok⟩

theorem new_at (w : World) (o : Obj) : (w.alloc o).heap[w.heap.size]? = some o := by
  show (w.heap.push o)[w.heap.size]? = some o
  simp
theorem new_old (w : World) (o : Obj) (b : Nat) (h : b < w.heap.size) : (w.alloc o).heap[b]? = w.heap[b]? := by
  show (w.heap.push o)[b]? = w.heap[b]?
  rw [Array.getElem?_push, if_neg (Nat.ne_of_lt h)]

/-- A new block. -/
theorem In.alloc {z own ro w} (h : In z own ro w) (o : Obj) (k : Ck) (hk : k.ok o) :
    In z (own ++ [[(w.heap.size, k)]]) ro (w.alloc o) := by
  have old : ∀ b, b < w.heap.size → (w.alloc o).heap[b]? = w.heap[b]? := fun b hb => new_old w o b hb
  have hb : blks (own ++ [[(w.heap.size, k)]]) = blks own ++ [w.heap.size] := by simp [blks]
  refine ⟨⟨?_, ?_, ?_, ?_⟩, ?_, ?_, h.rf⟩
  · intro s hs
    rcases List.mem_append.1 hs with hs | hs
    · exact (h.has.o s hs).keep fun p hp => old _ ((h.has.o s hs).lt hp)
    · simp only [List.mem_singleton] at hs; subst hs
      intro p hp
      simp only [List.mem_singleton] at hp; subst hp
      exact ⟨o, new_at w o, hk⟩
  · exact fun s hs => (h.has.r s hs).keep fun p hp => old _ ((h.has.r s hs).lt hp)
  · rw [hb, List.nodup_append]
    refine ⟨h.has.nd, by simp, fun a ha c hc => ?_⟩
    simp only [List.mem_singleton] at hc; subst hc
    exact Nat.ne_of_lt (h.has.lt (.inl ha))
  · intro b hb1 hb2
    rw [hb] at hb1
    rcases List.mem_append.1 hb1 with h1 | h1
    · exact h.has.dj b h1 hb2
    · simp only [List.mem_singleton] at h1; subst h1
      exact Nat.lt_irrefl _ (h.has.lt (.inr hb2))
  · exact ⟨h.ext.os, h.ext.tape, h.ext.output, by simp; exact Nat.le_succ_of_le h.ext.size,
      fun b hb hm => (old b (Nat.lt_of_lt_of_le hb h.ext.size)).trans (h.ext.blk b hb hm)⟩
  · intro b hb1
    rw [hb] at hb1
    rcases List.mem_append.1 hb1 with h1 | h1
    · exact h.fr b h1
    · simp only [List.mem_singleton] at h1; subst h1; exact .inr h.ext.size

theorem blks_set {own : List Seg} {i : Nat} {b : Nat} {k k' : Ck} (hi : own[i]? = some [(b, k)]) : blks (own.set i [(b, k')]) = blks own := by
  obtain ⟨hlt, he⟩ := List.getElem?_eq_some_iff.1 hi
  have h1 : own = own.take i ++ [(b, k)] :: own.drop (i + 1) := by
    rw [← he, List.getElem_cons_drop, List.take_append_drop]
  have h2 : own.set i [(b, k')] = own.take i ++ [(b, k')] :: own.drop (i + 1) := by
    rw [List.set_eq_take_append_cons_drop, if_pos hlt]
  rw [h2]
  conv => rhs; rw [h1]
  simp [blks]

/-- A block of its own is turned. -/
theorem In.turn {z own ro w} (h : In z own ro w) {i b k k'} {w' : World} {o' : Obj} (hi : own[i]? = some [(b, k)])
    (hnew : w'.heap[b]? = some o') (hk : k'.ok o') (hold : ∀ c, c ≠ b → w'.heap[c]? = w.heap[c]?) (hsz : w'.heap.size = w.heap.size)
    (hos : w'.os = w.os) (htp : w'.tape = w.tape) (hout : w'.output = w.output) :
    In z (own.set i [(b, k')]) ro w' := by
  have hmem : [(b, k)] ∈ own := List.mem_of_getElem? hi
  have hbo : b ∈ blks own := mem_blks.2 ⟨_, hmem, (b, k), by simp, rfl⟩
  have hbs := blks_set (k' := k') hi
  obtain ⟨hlt, he⟩ := List.getElem?_eq_some_iff.1 hi
  have hsplit : own = own.take i ++ [(b, k)] :: own.drop (i + 1) := by
    rw [← he, List.getElem_cons_drop, List.take_append_drop]
  have hnd := h.has.nd
  rw [hsplit] at hnd
  simp only [blks, List.flatten_append, List.flatten_cons, List.map_append, List.map_cons, List.map_nil] at hnd
  have hne : ∀ s, s ∈ own.take i ∨ s ∈ own.drop (i + 1) → ∀ p ∈ s, p.1 ≠ b := by
    intro s hs p hp e
    rw [List.nodup_append] at hnd
    obtain ⟨_, h2, h3⟩ := hnd
    rcases hs with hs | hs
    · exact h3 p.1 (List.mem_map.2 ⟨p, List.mem_flatten.2 ⟨s, hs, hp⟩, rfl⟩) b (by simp) e
    · have h4 := (List.nodup_cons.1 h2).1
      exact h4 (e ▸ List.mem_map.2 ⟨p, List.mem_flatten.2 ⟨s, hs, hp⟩, rfl⟩)
  refine ⟨⟨?_, ?_, ?_, ?_⟩, ?_, ?_, h.rf⟩
  · intro s hs
    rw [List.set_eq_take_append_cons_drop, if_pos hlt] at hs
    rcases List.mem_append.1 hs with hs | hs
    · exact (h.has.o s (List.mem_of_mem_take hs)).keep fun p hp => hold _ (hne s (.inl hs) p hp)
    · rcases List.mem_cons.1 hs with hs | hs
      · subst hs
        intro p hp
        simp only [List.mem_singleton] at hp; subst hp
        exact ⟨o', hnew, hk⟩
      · exact (h.has.o s (List.mem_of_mem_drop hs)).keep fun p hp => hold _ (hne s (.inr hs) p hp)
  · intro s hs
    exact (h.has.r s hs).keep fun p hp => hold _ fun e => h.has.dj b hbo (e ▸ mem_blks.2 ⟨s, hs, p, hp, rfl⟩)
  · rw [hbs]; exact h.has.nd
  · rw [hbs]; exact h.has.dj
  · refine ⟨hos.trans h.ext.os, htp.trans h.ext.tape, hout.trans h.ext.output, by rw [hsz]; exact h.ext.size, fun c hc hm => ?_⟩
    by_cases e : c = b
    · subst e
      rcases h.fr c hbo with h1 | h1
      · exact absurd h1 hm
      · omega
    · exact (hold c e).trans (h.ext.blk c hc hm)
  · rw [hbs]; exact h.fr

theorem In.drew {z own ro w} (h : In z own ro w) : In z own ro { w with drawn := w.drawn + 1 } :=
  ⟨⟨fun s hs => (h.has.o s hs).keep fun _ _ => rfl, fun s hs => (h.has.r s hs).keep fun _ _ => rfl, h.has.nd, h.has.dj⟩,
    ⟨h.ext.os, h.ext.tape, h.ext.output, h.ext.size, h.ext.blk⟩, h.fr, h.rf⟩

end Go.PW
